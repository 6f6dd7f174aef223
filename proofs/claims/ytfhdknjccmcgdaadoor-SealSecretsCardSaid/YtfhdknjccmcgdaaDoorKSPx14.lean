import Derived.Test.YtfhdknjccmcgdaaDoorKPx0
import Derived.Test.YtfhdknjccmcgdaaDoorKPx2
import Derived.Test.YtfhdknjccmcgdaaDoorKSPx6
import Derived.Test.YtfhdknjccmcgdaaDoorKSPx8
import Derived.Test.YtfhdknjccmcgdaaDoorKD
import Derived.Test.YtfhdknjccmcgdaaDoorKTa
import Derived.Test.YtfhdknjccmcgdaaDoorKSa
import Derived.Test.YtfhdknjccmcgdaaDoorKSc
set_option linter.unusedVariables false
set_option linter.unusedSimpArgs false
-- PRINTED by print.py (a twelfth state) out of the translation. Not trusted: Lean checks it.
namespace Go.Proofs.YtfhdknjccmcgdaaDoor.P
open Go.RowKit Go.Proofs.YtfhdknjccmcgdaaDoorW.PrintWords Go.Proofs.YtfhdknjccmcgdaaDoorW.PrintLast Go.Proofs.YtfhdknjccmcgdaaDoorW.PrintMore
attribute [local go_sem] max2_int min2_int max_two min_two max_three min_three max_four min_four   -- for this text's walks alone
set_option linter.unusedVariables false
set_option linter.unusedSimpArgs false

/-! ### pandectlaw03_SealSecrets: function 7 -/
mutual
def pandectlaw03_SealSecrets.j0 : Nat → ByteArray → ByteArray → ByteArray → Bool → Int → Int → Bool → Option (Bool)
  | 0, _, _, _, _, _, _, _ => none
  | k + 1, x0, x1, x4, x11, x12, x13, x37 => if x37 = true then (some x11) else ((seal_Public.f k x1 x12).bind fun bt478 => ((seal_Sign.f k x0 x12 x13 x4).bind fun bt480 => (if bt478.2 = 0 then (pandectlaw03_SealSecrets.j1 k x0 x1 x4 x11 x12 bt478.1 (bt480.2.2.2 != 0) bt480.1 bt480.2.1 bt480.2.2.1) else (pandectlaw03_SealSecrets.j1 k x0 x1 x4 x11 x12 bt478.1 true bt480.1 bt480.2.1 bt480.2.2.1))))
def pandectlaw03_SealSecrets.j1 : Nat → ByteArray → ByteArray → ByteArray → Bool → Int → ByteArray → Bool → Int → List ByteArray → List ByteArray → Option (Bool)
  | 0, _, _, _, _, _, _, _, _, _, _ => none
  | k + 1, x0, x1, x4, x11, x12, x14, x58, x489000, x489001, x489002 => if x58 = true then (some false) else ((seal_Verify.f k x14 x4 x489000 x489001 x489002).bind fun t489 => (if t489 = true then (if x11 = true then ((pandectref03_Made.f k x0 x12 15).bind fun t490 => ((pandectref03_Made.f k x1 x12 15).bind fun t493 => (if t490.length + t493.length < 8796093022208 then ((pandectref02_Shown.f k (t490 ++ t493)).bind fun t499 => (some t499)) else (none)))) else (some false)) else (some x11)))
end
def pandectlaw03_SealSecrets.f (k : Nat) (a0 : ByteArray) (a1 : ByteArray) (a2 : Int) (a3 : Int) (a4 : ByteArray) : Option (Bool) := (pandectlaw03_head.f k).bind fun t473 => (if 0 ≤ (Int.tmod (wrap64 (a2)) 3) then (if (shl .i64 1 (Int.tmod (wrap64 (a2)) 3)) = 0 then (none) else ((pandectlaw03_short.f k (([a0, a1, a4] : List ByteArray))).bind fun t477 => (if t477 = true then (pandectlaw03_SealSecrets.j0 k a0 a1 a4 t473 (Int.tmod (wrap64 (a2)) 3) (Int.tmod (wrap64 (a3)) (shl .i64 1 (Int.tmod (wrap64 (a2)) 3))) (a0.toList == a1.toList)) else (pandectlaw03_SealSecrets.j0 k a0 a1 a4 t473 (Int.tmod (wrap64 (a2)) 3) (Int.tmod (wrap64 (a3)) (shl .i64 1 (Int.tmod (wrap64 (a2)) 3))) true)))) else (none))
set_option maxHeartbeats 8000000 in
set_option maxRecDepth 100000 in
theorem pandectlaw03_SealSecrets.calls (k : Nat) (a0 : ByteArray) (a1 : ByteArray) (a2 : Int) (a3 : Int) (a4 : ByteArray) (r : Bool) (w : World) (hT : Tabs w) (h : pandectlaw03_SealSecrets.f k a0 a1 a2 a3 a4 = some r) :
    Calls Tryd.prog 7 #[.string a0, .string a1, .int .u8 a2, .int .u8 a3, .string a4] w fun e w' => e = .returned (.bool r) ∧ Below w.heap.size w w' := by
  have hu29 := Tryd.underlying29
  have HT := Aside0.mk hT
  clear hT
  have HB := Aside0.mk (Below.refl w.heap.size w)
  have H : ((pandectlaw03_head.f k).bind fun t473 => (if 0 ≤ (Int.tmod (wrap64 (a2)) 3) then (if (shl .i64 1 (Int.tmod (wrap64 (a2)) 3)) = 0 then (none) else ((pandectlaw03_short.f k (([a0, a1, a4] : List ByteArray))).bind fun t477 => (if t477 = true then (pandectlaw03_SealSecrets.j0 k a0 a1 a4 t473 (Int.tmod (wrap64 (a2)) 3) (Int.tmod (wrap64 (a3)) (shl .i64 1 (Int.tmod (wrap64 (a2)) 3))) (a0.toList == a1.toList)) else (pandectlaw03_SealSecrets.j0 k a0 a1 a4 t473 (Int.tmod (wrap64 (a2)) 3) (Int.tmod (wrap64 (a3)) (shl .i64 1 (Int.tmod (wrap64 (a2)) 3))) true)))) else (none))) = some r := h
  clear h
  replace H := Option.bind_eq_some_iff.mp H
  obtain ⟨t473, A60, H⟩ := H
  replace H : (if 0 ≤ (Int.tmod (wrap64 (a2)) 3) then (if (shl .i64 1 (Int.tmod (wrap64 (a2)) 3)) = 0 then (none) else ((pandectlaw03_short.f k (([a0, a1, a4] : List ByteArray))).bind fun t477 => (if t477 = true then (pandectlaw03_SealSecrets.j0 k a0 a1 a4 t473 (Int.tmod (wrap64 (a2)) 3) (Int.tmod (wrap64 (a3)) (shl .i64 1 (Int.tmod (wrap64 (a2)) 3))) (a0.toList == a1.toList)) else (pandectlaw03_SealSecrets.j0 k a0 a1 a4 t473 (Int.tmod (wrap64 (a2)) 3) (Int.tmod (wrap64 (a3)) (shl .i64 1 (Int.tmod (wrap64 (a2)) 3))) true)))) else (none)) = some r := H
  have A6 := Aside0.mk A60
  clear A60
  obtain ⟨ji7, hji7⟩ : ∃ j_ : Int, (Int.tmod (wrap64 (a2)) 3) = j_ := ⟨_, rfl⟩
  replace H : (if 0 ≤ (ji7) then (if (shl .i64 1 (ji7)) = 0 then (none) else ((pandectlaw03_short.f k (([a0, a1, a4] : List ByteArray))).bind fun t477 => (if t477 = true then (pandectlaw03_SealSecrets.j0 k a0 a1 a4 t473 ji7 (Int.tmod (wrap64 (a3)) (shl .i64 1 (ji7))) (a0.toList == a1.toList)) else (pandectlaw03_SealSecrets.j0 k a0 a1 a4 t473 ji7 (Int.tmod (wrap64 (a3)) (shl .i64 1 (ji7))) true)))) else (none)) = some r := by first | (rw [hji7] at H; exact H) | (simp only [hji7] at H ⊢; exact H)
  (try rw [hji7] at A6)
  by_cases c8 : 0 ≤ (ji7)
  · rw [if_pos c8] at H
    have c8b0 := eq_true c8
    have c8b1 : decide (0 ≤ (ji7)) = true := decide_eq_true c8
    clear c8
    obtain ⟨ji9, hji9⟩ : ∃ j_ : Int, (shl .i64 1 (ji7)) = j_ := ⟨_, rfl⟩
    replace H : (if (ji9) = 0 then (none) else ((pandectlaw03_short.f k (([a0, a1, a4] : List ByteArray))).bind fun t477 => (if t477 = true then (pandectlaw03_SealSecrets.j0 k a0 a1 a4 t473 ji7 (Int.tmod (wrap64 (a3)) (ji9)) (a0.toList == a1.toList)) else (pandectlaw03_SealSecrets.j0 k a0 a1 a4 t473 ji7 (Int.tmod (wrap64 (a3)) (ji9)) true)))) = some r := by first | (rw [hji9] at H; exact H) | (simp only [hji9] at H ⊢; exact H)
    (try rw [hji9] at A6)
    have hji9_ : (IntKind.i64.wrap (1 * 2 ^ min (ji7).toNat 64)) = ji9 := hji9
    have hji9z : (ji7) ≤ 64 → (IntKind.i64.wrap (1 * 2 ^ (ji7).toNat)) = ji9 := shl_small hji9
    have hji9u : (IntKind.i64.wrap (2 ^ min (ji7).toNat 64)) = ji9 := by have h_ := hji9_; rw [Int.one_mul] at h_; exact h_
    have hji9v : (ji7) ≤ 64 → (IntKind.i64.wrap (2 ^ (ji7).toNat)) = ji9 := fun hle_ => by have h_ := hji9z hle_; rw [Int.one_mul] at h_; exact h_
    have hji9y : (wrap64 (1 * 2 ^ min (ji7).toNat 64)) = ji9 := (i64_w _).symm.trans hji9_
    have hji9x : (ji7) ≤ 64 → (wrap64 (1 * 2 ^ (ji7).toNat)) = ji9 := fun h_ => (i64_w _).symm.trans (hji9z h_)
    by_cases c10 : (ji9) = 0
    · rw [if_pos c10] at H
      exact absurd H (by simp)
    · rw [if_neg c10] at H
      have c10b0 : ((ji9) == 0) = false := beq_eq_false_iff_ne.mpr c10
      have c10b1 : ((ji9) != 0) = true := bne_iff_ne.mpr c10
      have HC11 := Aside0.mk H
      clear H
      go_enter Tryd.func7, Tryd.ntmps7
      go_upto_region 4 with (first | ((with_reducible refine gate_callee (f := 9) rfl ?_); refine goesL_ (some 18) rfl rfl Tryd.func9 (by kernel_rfl) rfl #[] rfl (by (try simp only [List.map_toArray, List.map_cons, List.map_nil]); first | done | rfl | (simp only [List.length_drop, List.length_take]; rfl)) ?_; (with_reducible refine (pandectlaw03_head.calls k  t473 _ ?side1 A6.out).mono ?_); (case side1 => exact tabs_below HT.out (by first | exact upB HB.out | exact HB.out)); rintro e w12 ⟨rfl, hb⟩; refine ⟨_, rfl, ?_⟩; have n0_ := Aside0.mk (below_step (by first | exact upB HB.out | exact HB.out) hb); clear HB; have HB := n0_; clear n0_; (try clear hb); (try clear hb2); (try clear hk); (try clear hi)))
      (try simp only [Act.put, List.setIfInBounds_toArray, List.set_cons_zero, List.set_cons_succ])
      go_cut [37] (fun v37 wc => ∃ (kq : Nat) (x37_10 : Bool), v37 = .bool x37_10 ∧ Aside0 (pandectlaw03_SealSecrets.j0 kq a0 a1 a4 t473 ji7 (Int.tmod (wrap64 (a3)) (ji9)) x37_10 = some r) ∧ Aside0 (kq ≤ k) ∧ Aside0 (Below w.heap.size w wc))
      case first =>
        have H := HC11.out
        clear HC11
        obtain ⟨y474, hy474⟩ : ∃ y_ : List ByteArray, y_ = (([a0, a1, a4] : List ByteArray)) := ⟨_, rfl⟩
        replace H : ((pandectlaw03_short.f k y474).bind fun t477 => (if t477 = true then (pandectlaw03_SealSecrets.j0 k a0 a1 a4 t473 ji7 (Int.tmod (wrap64 (a3)) (ji9)) (a0.toList == a1.toList)) else (pandectlaw03_SealSecrets.j0 k a0 a1 a4 t473 ji7 (Int.tmod (wrap64 (a3)) (ji9)) true))) = some r := by first | (rw [hy474]; with_reducible exact H) | (have H2_ := (Option.bind_some _ _).symm.trans H; rw [hy474]; with_reducible exact H2_) | (have H2_ := (Option.bind_some _ _).symm.trans H; with_reducible exact H2_) | with_reducible exact H | (rw [hy474]; exact H) | exact H
        have Ny474 := Aside0.mk hy474
        clear hy474
        replace H := Option.bind_eq_some_iff.mp H
        obtain ⟨t477, A130, H⟩ := H
        replace H : (if t477 = true then (pandectlaw03_SealSecrets.j0 k a0 a1 a4 t473 ji7 (Int.tmod (wrap64 (a3)) (ji9)) (a0.toList == a1.toList)) else (pandectlaw03_SealSecrets.j0 k a0 a1 a4 t473 ji7 (Int.tmod (wrap64 (a3)) (ji9)) true)) = some r := H
        have A13 := Aside0.mk A130
        clear A130
        by_cases c14 : t477 = true
        · subst c14
          have H1 : (pandectlaw03_SealSecrets.j0 k a0 a1 a4 t473 ji7 (Int.tmod (wrap64 (a3)) (ji9)) (a0.toList == a1.toList)) = some r := by rw [if_pos rfl] at H; exact H
          clear H
          have H := H1
          clear H1
          have H' := Aside0.mk H
          clear H
          go_wp2_with (first | ((with_reducible refine gate_dst (N := 30) rfl ?_); (try (refine gate_guard (by rfl) ?_; dsimp only)); refine Kd.R_lit Kd.string _ 9 ?hg (N := 30) ?hd (xs := ([a0, a1, a4] : List ByteArray)) (inner := [.string a0, .string a1, .string a4]) (ok := fun _ => True) (okp := fun _ => True) ?hr ?hp (fun _ hk => hk) trivial (Below.refl _ _) (Nat.le_refl _) (by simp) ?_; (case hd => rfl); (case hg => rfl); (case hr => first | (go_simp; done) | (go_simp; rfl)); (case hp => exact (Reps.one (show Kd.M Kd.string _ _ _ a0 [.string a0] from rfl) (Reps.one (show Kd.M Kd.string _ _ _ a1 [.string a1] from rfl) (Reps.one (show Kd.M Kd.string _ _ _ a4 [.string a4] from rfl) (Reps.none _ _))))); intro v475 w15 ho16 hb hg_ hnew_; clear hg_ hnew_; (first | rw [← Ny474.out] at ho16 | (simp only [Int.reduceToNat] at ho16; rw [← Ny474.out] at ho16)); have n0_ := Aside0.mk (Kd.R_lower ho16 (below_size (by first | exact upB HB.out | exact HB.out))); have n1_ := Aside0.mk (below_step (by first | exact upB HB.out | exact HB.out) hb); clear HB; have HO476 := n0_; have HB := n1_; clear n0_ n1_; clear hb ho16; obtain ⟨Ao17, co17, eo17⟩ := Kd.R_slice HO476.out; subst eo17) | ((with_reducible refine gate_callee (f := 10) rfl ?_); refine goesL_ (some 31) rfl rfl Tryd.func10 (by kernel_rfl) rfl #[.slice Ao17 y474.length co17] rfl (by (try simp only [List.map_toArray, List.map_cons, List.map_nil]); first | done | rfl | (simp only [List.length_drop, List.length_take]; rfl)) ?_; (with_reducible refine (pandectlaw03_short.calls k _ _ y474 true _ ?side1 ?side2 A13.out).mono ?_); (case side1 => exact upC ((Kd.R_reads' HO476.out).2.2)); (case side2 => exact (Kd.R_reads' HO476.out).2.1); rintro e w' ⟨rfl, ⟨nd, rfl⟩⟩; refine ⟨_, rfl, ?_⟩))
          go_meet
          case rel => exact ⟨_, ((a0.toList == a1.toList)), (by first | rfl | (simp; done) | (simp [*]; done)), H', ⟨by first | omega | exact Nat.le_refl _⟩, ⟨by first | exact upB HB.out | exact HB.out⟩⟩
        · replace c14 := Bool.eq_false_iff.mpr c14
          subst c14
          have H1 : (pandectlaw03_SealSecrets.j0 k a0 a1 a4 t473 ji7 (Int.tmod (wrap64 (a3)) (ji9)) true) = some r := by rw [if_neg (show ¬ (false = true) by decide)] at H; exact H
          clear H
          have H := H1
          clear H1
          have H' := Aside0.mk H
          clear H
          go_wp2_with (first | ((with_reducible refine gate_dst (N := 30) rfl ?_); (try (refine gate_guard (by rfl) ?_; dsimp only)); refine Kd.R_lit Kd.string _ 9 ?hg (N := 30) ?hd (xs := ([a0, a1, a4] : List ByteArray)) (inner := [.string a0, .string a1, .string a4]) (ok := fun _ => True) (okp := fun _ => True) ?hr ?hp (fun _ hk => hk) trivial (Below.refl _ _) (Nat.le_refl _) (by simp) ?_; (case hd => rfl); (case hg => rfl); (case hr => first | (go_simp; done) | (go_simp; rfl)); (case hp => exact (Reps.one (show Kd.M Kd.string _ _ _ a0 [.string a0] from rfl) (Reps.one (show Kd.M Kd.string _ _ _ a1 [.string a1] from rfl) (Reps.one (show Kd.M Kd.string _ _ _ a4 [.string a4] from rfl) (Reps.none _ _))))); intro v475 w18 ho19 hb hg_ hnew_; clear hg_ hnew_; (first | rw [← Ny474.out] at ho19 | (simp only [Int.reduceToNat] at ho19; rw [← Ny474.out] at ho19)); have n0_ := Aside0.mk (Kd.R_lower ho19 (below_size (by first | exact upB HB.out | exact HB.out))); have n1_ := Aside0.mk (below_step (by first | exact upB HB.out | exact HB.out) hb); clear HB; have HO476 := n0_; have HB := n1_; clear n0_ n1_; clear hb ho19; obtain ⟨Ao20, co20, eo20⟩ := Kd.R_slice HO476.out; subst eo20) | ((with_reducible refine gate_callee (f := 10) rfl ?_); refine goesL_ (some 31) rfl rfl Tryd.func10 (by kernel_rfl) rfl #[.slice Ao20 y474.length co20] rfl (by (try simp only [List.map_toArray, List.map_cons, List.map_nil]); first | done | rfl | (simp only [List.length_drop, List.length_take]; rfl)) ?_; (with_reducible refine (pandectlaw03_short.calls k _ _ y474 false _ ?side1 ?side2 A13.out).mono ?_); (case side1 => exact upC ((Kd.R_reads' HO476.out).2.2)); (case side2 => exact (Kd.R_reads' HO476.out).2.1); rintro e w' ⟨rfl, ⟨nd, rfl⟩⟩; refine ⟨_, rfl, ?_⟩))
          go_meet
          case rel => exact ⟨_, (true), (by first | rfl | (simp; done) | (simp [*]; done)), H', ⟨by first | omega | exact Nat.le_refl _⟩, ⟨by first | exact upB HB.out | exact HB.out⟩⟩
      case rest =>
        clear HC11
        try clear c1
        try clear p2
        try clear p6
        try clear c7
        try clear c8
        try clear c8b0
        try clear c8b1
        try clear c9
        try clear c10
        try clear c10b0
        try clear c10b1
        try clear c14
        obtain ⟨kq, x37_10, rfl, HA, HJ10, HB⟩ := hcut
        cases kq with
        | zero => exact absurd HA.out (by simp [pandectlaw03_SealSecrets.j0])
        | succ kj10 =>
          have H := HA.out
          clear HA
          simp only [pandectlaw03_SealSecrets.j0] at H
          by_cases c21 : x37_10 = true
          · subst c21
            have H1 : (some t473) = some r := by rw [if_pos rfl] at H; exact H
            clear H
            have H := H1
            clear H1
            obtain rfl := Option.some.inj H
            go_wp2
            go_ret
            exact ⟨by first | rfl | (simp [errW_none, errW_some] <;> rfl) | (simp only [← hji7, ← hji9]; first | rfl | (simp [errW_none, errW_some] <;> rfl)) | (simp [*, errW_none, errW_some] <;> rfl), by first | exact upB HB.out | exact HB.out⟩
          · replace c21 := Bool.eq_false_iff.mpr c21
            subst c21
            have H1 : ((seal_Public.f kj10 a1 ji7).bind fun bt478 => ((seal_Sign.f kj10 a0 ji7 (Int.tmod (wrap64 (a3)) (ji9)) a4).bind fun bt480 => (if bt478.2 = 0 then (pandectlaw03_SealSecrets.j1 kj10 a0 a1 a4 t473 ji7 bt478.1 (bt480.2.2.2 != 0) bt480.1 bt480.2.1 bt480.2.2.1) else (pandectlaw03_SealSecrets.j1 kj10 a0 a1 a4 t473 ji7 bt478.1 true bt480.1 bt480.2.1 bt480.2.2.1)))) = some r := by rw [if_neg (show ¬ (false = true) by decide)] at H; exact H
            clear H
            have H := H1
            clear H1
            replace H := Option.bind_eq_some_iff.mp H
            obtain ⟨⟨t478, t479⟩, A220, H⟩ := H
            replace H : ((seal_Sign.f kj10 a0 ji7 (Int.tmod (wrap64 (a3)) (ji9)) a4).bind fun bt480 => (if t479 = 0 then (pandectlaw03_SealSecrets.j1 kj10 a0 a1 a4 t473 ji7 t478 (bt480.2.2.2 != 0) bt480.1 bt480.2.1 bt480.2.2.1) else (pandectlaw03_SealSecrets.j1 kj10 a0 a1 a4 t473 ji7 t478 true bt480.1 bt480.2.1 bt480.2.2.1))) = some r := H
            have A22 := Aside0.mk A220
            clear A220
            replace H := Option.bind_eq_some_iff.mp H
            obtain ⟨⟨t480, t481, t484, t487⟩, A230, H⟩ := H
            replace H : (if t479 = 0 then (pandectlaw03_SealSecrets.j1 kj10 a0 a1 a4 t473 ji7 t478 (t487 != 0) t480 t481 t484) else (pandectlaw03_SealSecrets.j1 kj10 a0 a1 a4 t473 ji7 t478 true t480 t481 t484)) = some r := H
            have A23 := Aside0.mk A230
            clear A230
            have HC24 := Aside0.mk H
            clear H
            go_upto_region 8 with (first | ((with_reducible refine gate_callee (f := 11) rfl ?_); refine goesL_ (some 42) rfl rfl Tryd.func11 (by kernel_rfl) rfl #[.string a1, .int .i64 ji7] rfl (by (try simp only [List.map_toArray, List.map_cons, List.map_nil]); first | done | (simp only [hji7]; rfl) | rfl | (simp only [List.length_drop, List.length_take]; rfl)) ?_; (with_reducible refine (seal_Public.calls kj10 a1 ji7 t478 t479 _ ?side1 A22.out).mono ?_); (case side1 => exact tabs_below HT.out (by first | exact upB HB.out | exact HB.out)); rintro e w25 ⟨rfl, hb⟩; refine ⟨_, rfl, ?_⟩; have n0_ := Aside0.mk (below_step (by first | exact upB HB.out | exact HB.out) hb); clear HB; have HB := n0_; clear n0_; (try clear hb); (try clear hb2); (try clear hk); (try clear hi)) | ((with_reducible refine gate_callee (f := 12) rfl ?_); refine goesL_ (some 50) rfl rfl Tryd.func12 (by kernel_rfl) rfl #[.string a0, .int .i64 ji7, .int .i64 (Int.tmod (wrap64 (a3)) (ji9)), .string a4] rfl (by (try simp only [List.map_toArray, List.map_cons, List.map_nil]); first | done | (simp only [hji7, hji9]; rfl) | rfl | (simp only [List.length_drop, List.length_take]; rfl)) ?_; (with_reducible refine (seal_Sign.calls kj10 a0 ji7 (Int.tmod (wrap64 (a3)) (ji9)) a4 t480 t481 t484 t487 _ ?side1 A23.out).mono ?_); (case side1 => exact tabs_below HT.out (by first | exact upB HB.out | exact HB.out)); rintro e w26 ⟨v482, v485, rfl, ho0, ho1, hb⟩; refine ⟨_, rfl, ?_⟩; have n0_ := Aside0.mk (Kd.R_lower ho0 (below_size (by first | exact upB HB.out | exact HB.out))); have n1_ := Aside0.mk (Kd.R_lower ho1 (below_size (by first | exact upB HB.out | exact HB.out))); have n2_ := Aside0.mk (below_step (by first | exact upB HB.out | exact HB.out) hb); clear HB; have HO483 := n0_; have HO486 := n1_; have HB := n2_; clear n0_ n1_ n2_; (try clear hb); (try clear hb2); (try clear hk); (try clear hi); (try clear ho0); (try clear ho1)) | ((with_reducible refine gate_dst (N := 16) rfl ?_); (try (refine gate_guard (by rfl) ?_; dsimp only)); refine box_event ?hg (N := 16) ?hd (cs := #[.int .i64 0, .slice none 0 0, .slice none 0 0]) (t := 29) ?hr ?_; (case hd => rfl); (case hg => rfl); (case hr => first | (go_simp; done) | (go_simp; rfl)); intro gb488 hg w27 hbox hb; have n0_ := Aside0.mk (Kd.R_below (by exact upR HO483.out) hb); have n1_ := Aside0.mk (Kd.R_below (by exact upR HO486.out) hb); have n2_ := Aside0.mk (below_step (by first | exact upB HB.out | exact HB.out) hb); have n3_ := Aside0.mk (hbox); have n4_ := Aside0.mk ((by rw [hg]; exact (below_size (by first | exact upB HB.out | exact HB.out)) : w.heap.size ≤ gb488)); have n5_ := Aside0.mk ((by rw [hg]; exact (below_size (by first | exact upB HB.out | exact HB.out)) : w.heap.size ≤ gb488)); clear HO483; clear HO486; clear HB; have HO483 := n0_; have HO486 := n1_; have HB := n2_; have BK488 := n3_; have GW488 := n4_; have GE488 := n5_; clear n0_ n1_ n2_ n3_ n4_ n5_; clear hb hbox hg; have hcz28_0 : w27.cell? ⟨gb488, 0, none⟩ = some (.int .i64 0) := (blk_cell BK488.out 0).trans rfl; have hcz28_1 : w27.cell? ⟨gb488, 1, none⟩ = some (.slice none 0 0) := (blk_cell BK488.out 1).trans rfl; have hcz28_2 : w27.cell? ⟨gb488, 2, none⟩ = some (.slice none 0 0) := (blk_cell BK488.out 2).trans rfl; have hfz28_0 := blk_frozen BK488.out 0; have hfz28_1 := blk_frozen BK488.out 1; have hfz28_2 := blk_frozen BK488.out 2; obtain ⟨Ao29, co29, eo29⟩ := Kd.R_slice HO483.out; subst eo29; obtain ⟨Ao30, co30, eo30⟩ := Kd.R_slice HO486.out; subst eo30))
            (try simp only [Act.put, List.setIfInBounds_toArray, List.set_cons_zero, List.set_cons_succ])
            go_cut [58] (fun v58 wc => ∃ (kq : Nat) (x58_23 : Bool), v58 = .bool x58_23 ∧ Aside0 (pandectlaw03_SealSecrets.j1 kq a0 a1 a4 t473 ji7 t478 x58_23 t480 t481 t484 = some r) ∧ Aside0 (kq ≤ kj10) ∧ Aside0 (Kd.R Kd.string 9 wc w.heap.size (fun k_ => some k_ ≠ ((.slice Ao30 t484.length co30) : Value).ownBlock) (.slice Ao29 t481.length co29) t481) ∧ Aside0 (Kd.R Kd.string 9 wc w.heap.size (fun k_ => some k_ ≠ ((.slice Ao29 t481.length co29) : Value).ownBlock) (.slice Ao30 t484.length co30) t484) ∧ Aside0 (wc.heap[gb488]? = some (.cells #[.int .i64 t480, (.slice Ao29 t481.length co29), (.slice Ao30 t484.length co30)] 29 (0, 0))) ∧ Aside0 (Below w.heap.size w wc))
            case first =>
              have H := HC24.out
              clear HC24
              by_cases c31 : t479 = 0
              · rw [if_pos c31] at H
                have c31b0 : (t479 == 0) = true := beq_iff_eq.mpr c31
                have c31b1 : (t479 != 0) = false := bne_eq_false_iff_eq.mpr c31
                clear c31
                (first | rw [c31b0] | (simp only [i64_w, i32_w]; rw [c31b0]) | skip)
                have H' := Aside0.mk H
                clear H
                go_wp2
                go_meet
                case rel => exact ⟨_, ((t487 != 0)), (by first | rfl | (simp; done) | (simp [*]; done)), H', ⟨by have := HJ10.out; first | omega | exact Nat.le_refl _⟩, ⟨by (with_reducible repeat (first | apply Kd.R_alloc | apply Kd.R_drewN | apply Kd.R_drew)); exact Kd.R_mono (Kd.R_far (p := ⟨gb488, 2, none⟩) (Kd.R_far (p := ⟨gb488, 1, none⟩) (Kd.R_far (p := ⟨gb488, 0, none⟩) (Kd.R_types HO483.out BK488.out (by decide)) (fun _ hk => hk.2) (.int .i64 t480)) (fun _ hk => hk.2) (.slice Ao29 t481.length co29)) (fun _ hk => hk.2) (.slice Ao30 t484.length co30)) (fun _ hk => hk.1)⟩, ⟨by (with_reducible repeat (first | apply Kd.R_alloc | apply Kd.R_drewN | apply Kd.R_drew)); exact Kd.R_mono (Kd.R_far (p := ⟨gb488, 2, none⟩) (Kd.R_far (p := ⟨gb488, 1, none⟩) (Kd.R_far (p := ⟨gb488, 0, none⟩) (Kd.R_types HO486.out BK488.out (by decide)) (fun _ hk => hk.2) (.int .i64 t480)) (fun _ hk => hk.2) (.slice Ao29 t481.length co29)) (fun _ hk => hk.2) (.slice Ao30 t484.length co30)) (fun _ hk => hk.1)⟩, ⟨by (with_reducible repeat (first | refine blk_drewN ?_ _ | refine blk_drew ?_ | refine blk_alloc ?_ _)); refine blk_put (cs := #[.int .i64 t480, .slice Ao29 t481.length co29, .slice none 0 0]) ?_ 2 _ rfl; (with_reducible repeat (first | refine blk_drewN ?_ _ | refine blk_drew ?_ | refine blk_alloc ?_ _)); refine blk_put (cs := #[.int .i64 t480, .slice none 0 0, .slice none 0 0]) ?_ 1 _ rfl; (with_reducible repeat (first | refine blk_drewN ?_ _ | refine blk_drew ?_ | refine blk_alloc ?_ _)); refine blk_put (cs := #[.int .i64 0, .slice none 0 0, .slice none 0 0]) ?_ 0 _ rfl; (with_reducible repeat (first | refine blk_drewN ?_ _ | refine blk_drew ?_ | refine blk_alloc ?_ _)); exact BK488.out⟩, ⟨by repeat (first | (with_reducible first | exact HB.out | apply below_alloc | apply pw_below_drewN | apply below_drew1 | refine below_set ?_ GE488.out) | exact HB.out)⟩⟩
              · rw [if_neg c31] at H
                have c31b0 : (t479 == 0) = false := beq_eq_false_iff_ne.mpr c31
                have c31b1 : (t479 != 0) = true := bne_iff_ne.mpr c31
                (first | rw [c31b0] | (simp only [i64_w, i32_w]; rw [c31b0]) | skip)
                have H' := Aside0.mk H
                clear H
                go_wp2
                go_meet
                case rel => exact ⟨_, (true), (by first | rfl | (simp; done) | (simp [*]; done)), H', ⟨by have := HJ10.out; first | omega | exact Nat.le_refl _⟩, ⟨by (with_reducible repeat (first | apply Kd.R_alloc | apply Kd.R_drewN | apply Kd.R_drew)); exact Kd.R_mono (Kd.R_far (p := ⟨gb488, 2, none⟩) (Kd.R_far (p := ⟨gb488, 1, none⟩) (Kd.R_far (p := ⟨gb488, 0, none⟩) (Kd.R_types HO483.out BK488.out (by decide)) (fun _ hk => hk.2) (.int .i64 t480)) (fun _ hk => hk.2) (.slice Ao29 t481.length co29)) (fun _ hk => hk.2) (.slice Ao30 t484.length co30)) (fun _ hk => hk.1)⟩, ⟨by (with_reducible repeat (first | apply Kd.R_alloc | apply Kd.R_drewN | apply Kd.R_drew)); exact Kd.R_mono (Kd.R_far (p := ⟨gb488, 2, none⟩) (Kd.R_far (p := ⟨gb488, 1, none⟩) (Kd.R_far (p := ⟨gb488, 0, none⟩) (Kd.R_types HO486.out BK488.out (by decide)) (fun _ hk => hk.2) (.int .i64 t480)) (fun _ hk => hk.2) (.slice Ao29 t481.length co29)) (fun _ hk => hk.2) (.slice Ao30 t484.length co30)) (fun _ hk => hk.1)⟩, ⟨by (with_reducible repeat (first | refine blk_drewN ?_ _ | refine blk_drew ?_ | refine blk_alloc ?_ _)); refine blk_put (cs := #[.int .i64 t480, .slice Ao29 t481.length co29, .slice none 0 0]) ?_ 2 _ rfl; (with_reducible repeat (first | refine blk_drewN ?_ _ | refine blk_drew ?_ | refine blk_alloc ?_ _)); refine blk_put (cs := #[.int .i64 t480, .slice none 0 0, .slice none 0 0]) ?_ 1 _ rfl; (with_reducible repeat (first | refine blk_drewN ?_ _ | refine blk_drew ?_ | refine blk_alloc ?_ _)); refine blk_put (cs := #[.int .i64 0, .slice none 0 0, .slice none 0 0]) ?_ 0 _ rfl; (with_reducible repeat (first | refine blk_drewN ?_ _ | refine blk_drew ?_ | refine blk_alloc ?_ _)); exact BK488.out⟩, ⟨by repeat (first | (with_reducible first | exact HB.out | apply below_alloc | apply pw_below_drewN | apply below_drew1 | refine below_set ?_ GE488.out) | exact HB.out)⟩⟩
            case rest =>
              clear HC24
              try clear c1
              try clear c2
              try clear p2
              try clear c3
              try clear p6
              try clear c7
              try clear c8
              try clear c8b0
              try clear c8b1
              try clear c9
              try clear c10
              try clear c10b0
              try clear c10b1
              try clear c11
              try clear c12
              try clear c14
              try clear c21
              try clear c31
              try clear c31b0
              try clear c31b1
              try clear hcz28_0
              try clear hcz28_1
              try clear hcz28_2
              try clear hfz28_0
              try clear hfz28_1
              try clear hfz28_2
              try clear p2
              try clear p6
              obtain ⟨kq, x58_23, rfl, HA, HJ23, HO_489001, HO_489002, BK488, HB⟩ := hcut
              cases kq with
              | zero => exact absurd HA.out (by simp [pandectlaw03_SealSecrets.j1])
              | succ kj23 =>
                have H := HA.out
                clear HA
                simp only [pandectlaw03_SealSecrets.j1] at H
                by_cases c32 : x58_23 = true
                · subst c32
                  have H1 : (some false) = some r := by rw [if_pos rfl] at H; exact H
                  clear H
                  have H := H1
                  clear H1
                  obtain rfl := Option.some.inj H
                  go_wp2
                  go_ret
                  exact ⟨by first | rfl | (simp [errW_none, errW_some] <;> rfl) | (simp only [← hji7, ← hji9]; first | rfl | (simp [errW_none, errW_some] <;> rfl)) | (simp [*, errW_none, errW_some] <;> rfl), by repeat (first | (with_reducible first | exact HB.out | apply below_alloc | apply pw_below_drewN | apply below_drew1 | refine below_set ?_ GE488.out) | exact HB.out)⟩
                · replace c32 := Bool.eq_false_iff.mpr c32
                  subst c32
                  have H1 : ((seal_Verify.f kj23 t478 a4 t480 t481 t484).bind fun t489 => (if t489 = true then (if t473 = true then ((pandectref03_Made.f kj23 a0 ji7 15).bind fun t490 => ((pandectref03_Made.f kj23 a1 ji7 15).bind fun t493 => (if t490.length + t493.length < 8796093022208 then ((pandectref02_Shown.f kj23 (t490 ++ t493)).bind fun t499 => (some t499)) else (none)))) else (some false)) else (some t473))) = some r := by rw [if_neg (show ¬ (false = true) by decide)] at H; exact H
                  clear H
                  have H := H1
                  clear H1
                  replace H := Option.bind_eq_some_iff.mp H
                  obtain ⟨t489, A330, H⟩ := H
                  replace H : (if t489 = true then (if t473 = true then ((pandectref03_Made.f kj23 a0 ji7 15).bind fun t490 => ((pandectref03_Made.f kj23 a1 ji7 15).bind fun t493 => (if t490.length + t493.length < 8796093022208 then ((pandectref02_Shown.f kj23 (t490 ++ t493)).bind fun t499 => (some t499)) else (none)))) else (some false)) else (some t473)) = some r := H
                  have A33 := Aside0.mk A330
                  clear A330
                  by_cases c34 : t489 = true
                  · subst c34
                    have H1 : (if t473 = true then ((pandectref03_Made.f kj23 a0 ji7 15).bind fun t490 => ((pandectref03_Made.f kj23 a1 ji7 15).bind fun t493 => (if t490.length + t493.length < 8796093022208 then ((pandectref02_Shown.f kj23 (t490 ++ t493)).bind fun t499 => (some t499)) else (none)))) else (some false)) = some r := by rw [if_pos rfl] at H; exact H
                    clear H
                    have H := H1
                    clear H1
                    by_cases c35 : t473 = true
                    · subst c35
                      have H1 : ((pandectref03_Made.f kj23 a0 ji7 15).bind fun t490 => ((pandectref03_Made.f kj23 a1 ji7 15).bind fun t493 => (if t490.length + t493.length < 8796093022208 then ((pandectref02_Shown.f kj23 (t490 ++ t493)).bind fun t499 => (some t499)) else (none)))) = some r := by rw [if_pos rfl] at H; exact H
                      clear H
                      have H := H1
                      clear H1
                      replace H := Option.bind_eq_some_iff.mp H
                      obtain ⟨t490, A360, H⟩ := H
                      replace H : ((pandectref03_Made.f kj23 a1 ji7 15).bind fun t493 => (if t490.length + t493.length < 8796093022208 then ((pandectref02_Shown.f kj23 (t490 ++ t493)).bind fun t499 => (some t499)) else (none))) = some r := H
                      have A36 := Aside0.mk A360
                      clear A360
                      replace H := Option.bind_eq_some_iff.mp H
                      obtain ⟨t493, A370, H⟩ := H
                      replace H : (if t490.length + t493.length < 8796093022208 then ((pandectref02_Shown.f kj23 (t490 ++ t493)).bind fun t499 => (some t499)) else (none)) = some r := H
                      have A37 := Aside0.mk A370
                      clear A370
                      by_cases c38 : t490.length + t493.length < 8796093022208
                      · rw [if_pos c38] at H
                        have LMc38 := Aside0.mk c38
                        clear c38
                        obtain ⟨y496, hy496⟩ : ∃ y_ : List ByteArray, y_ = (t490 ++ t493) := ⟨_, rfl⟩
                        replace H : ((pandectref02_Shown.f kj23 y496).bind fun t499 => (some t499)) = some r := by first | (rw [hy496]; with_reducible exact H) | (have H2_ := (Option.bind_some _ _).symm.trans H; rw [hy496]; with_reducible exact H2_) | (have H2_ := (Option.bind_some _ _).symm.trans H; with_reducible exact H2_) | with_reducible exact H | (rw [hy496]; exact H) | exact H
                        have Ny496 := Aside0.mk hy496
                        clear hy496
                        replace H := Option.bind_eq_some_iff.mp H
                        obtain ⟨t499, A390, H⟩ := H
                        replace H : (some t499) = some r := H
                        have A39 := Aside0.mk A390
                        clear A390
                        obtain rfl := Option.some.inj H
                        have hcz40_0 : wc.cell? ⟨gb488, 0, none⟩ = some (.int .i64 t480) := (blk_cell BK488.out 0).trans rfl
                        have hcz40_1 : wc.cell? ⟨gb488, 1, none⟩ = some (.slice Ao29 t481.length co29) := (blk_cell BK488.out 1).trans rfl
                        have hcz40_2 : wc.cell? ⟨gb488, 2, none⟩ = some (.slice Ao30 t484.length co30) := (blk_cell BK488.out 2).trans rfl
                        have hfz40_0 := blk_frozen BK488.out 0
                        have hfz40_1 := blk_frozen BK488.out 1
                        have hfz40_2 := blk_frozen BK488.out 2
                        have tk48_ : True := trivial
                        have tk49_ : True := trivial
                        go_wp2_with (first | ((with_reducible refine gate_callee (f := 16) rfl ?_); refine goesL_ (some 62) rfl rfl Tryd.func16 (by kernel_rfl) rfl #[.string t478, .string a4, .agg #[.int .i64 t480, .slice Ao29 t481.length co29, .slice Ao30 t484.length co30]] rfl (by (try simp only [List.map_toArray, List.map_cons, List.map_nil]); first | done | rfl | (simp only [List.length_drop, List.length_take]; rfl)) ?_; (with_reducible refine (seal_Verify.calls kj23 t478 a4 t480 _ _ t481 _ _ t484 true _ ?side1 ?side2 ?side3 ?side4 ?side5 A33.out).mono ?_); (case side1 => exact upC ((Kd.R_reads' HO_489001.out).2.2)); (case side2 => exact (Kd.R_reads' HO_489001.out).2.1); (case side3 => exact upC ((Kd.R_reads' HO_489002.out).2.2)); (case side4 => exact (Kd.R_reads' HO_489002.out).2.1); (case side5 => exact tabs_below HT.out (by repeat (first | (with_reducible first | exact HB.out | apply below_alloc | apply pw_below_drewN | apply below_drew1 | refine below_set ?_ GE488.out) | exact HB.out))); rintro e w41 ⟨rfl, hb⟩; refine ⟨_, rfl, ?_⟩; have n0_ := Aside0.mk (Kd.R_below (by exact upR HO_489001.out) hb); have n1_ := Aside0.mk (Kd.R_below (by exact upR HO_489002.out) hb); have n2_ := Aside0.mk (blk_below (g := gb488) (o := .cells #[.int .i64 t480, .slice Ao29 t481.length co29, .slice Ao30 t484.length co30] 29 (0, 0)) (by (with_reducible repeat (first | refine blk_drewN ?_ _ | refine blk_drew ?_ | refine blk_alloc ?_ _)); exact BK488.out) hb); have n3_ := Aside0.mk (below_step (by repeat (first | (with_reducible first | exact HB.out | apply below_alloc | apply pw_below_drewN | apply below_drew1 | refine below_set ?_ GE488.out) | exact HB.out)) hb); clear HO_489001; clear HO_489002; clear BK488; clear HB; have HO_489001 := n0_; have HO_489002 := n1_; have BK488 := n2_; have HB := n3_; clear n0_ n1_ n2_ n3_; (try clear hb); (try clear hb2); (try clear hk); (try clear hi)) | (go_at_call 19; clear tk48_; (with_reducible refine (pandectref03_Made.calls kj23 a0 ji7 15 t490 _ A36.out).mono ?_); rintro e w42 ⟨v491, rfl, ho0, hb⟩; have n0_ := Aside0.mk (Kd.R_elder' (by exact upR HO_489001.out) (Kd.R_base ho0) hb); have n1_ := Aside0.mk (Kd.R_elder' (by exact upR HO_489002.out) (Kd.R_base ho0) hb); have n2_ := Aside0.mk (Kd.R_lower (Kd.R_new' (Kd.R_new' ho0 (Kd.R_lt (by exact upR HO_489001.out))) (Kd.R_lt (by exact upR HO_489002.out))) (below_size (by repeat (first | (with_reducible first | exact HB.out | apply below_alloc | apply pw_below_drewN | apply below_drew1 | refine below_set ?_ GE488.out) | exact HB.out)))); have n3_ := Aside0.mk (blk_below (g := gb488) (o := .cells #[.int .i64 t480, .slice Ao29 t481.length co29, .slice Ao30 t484.length co30] 29 (0, 0)) (by (with_reducible repeat (first | refine blk_drewN ?_ _ | refine blk_drew ?_ | refine blk_alloc ?_ _)); exact BK488.out) hb); have n4_ := Aside0.mk (below_step (by repeat (first | (with_reducible first | exact HB.out | apply below_alloc | apply pw_below_drewN | apply below_drew1 | refine below_set ?_ GE488.out) | exact HB.out)) hb); clear HO_489001; clear HO_489002; clear BK488; clear HB; have HO_489001 := n0_; have HO_489002 := n1_; have HO492 := n2_; have BK488 := n3_; have HB := n4_; clear n0_ n1_ n2_ n3_ n4_; (try clear hb); (try clear hb2); (try clear hk); (try clear hi); (try clear ho0)) | (go_at_call 19; clear tk49_; (with_reducible refine (pandectref03_Made.calls kj23 a1 ji7 15 t493 _ A37.out).mono ?_); rintro e w43 ⟨v494, rfl, ho0, hb⟩; have n0_ := Aside0.mk (Kd.R_elder' (by exact upR HO_489001.out) (Kd.R_base ho0) hb); have n1_ := Aside0.mk (Kd.R_elder' (by exact upR HO_489002.out) (Kd.R_base ho0) hb); have n2_ := Aside0.mk (Kd.R_elder' (by exact upR HO492.out) (Kd.R_base ho0) hb); have n3_ := Aside0.mk (Kd.R_lower (Kd.R_new' (Kd.R_new' (Kd.R_new' ho0 (Kd.R_lt (by exact upR HO_489001.out))) (Kd.R_lt (by exact upR HO_489002.out))) (Kd.R_lt (by exact upR HO492.out))) (below_size (by repeat (first | (with_reducible first | exact HB.out | apply below_alloc | apply pw_below_drewN | apply below_drew1 | refine below_set ?_ GE488.out) | exact HB.out)))); have n4_ := Aside0.mk (blk_below (g := gb488) (o := .cells #[.int .i64 t480, .slice Ao29 t481.length co29, .slice Ao30 t484.length co30] 29 (0, 0)) (by (with_reducible repeat (first | refine blk_drewN ?_ _ | refine blk_drew ?_ | refine blk_alloc ?_ _)); exact BK488.out) hb); have n5_ := Aside0.mk (below_step (by repeat (first | (with_reducible first | exact HB.out | apply below_alloc | apply pw_below_drewN | apply below_drew1 | refine below_set ?_ GE488.out) | exact HB.out)) hb); clear HO_489001; clear HO_489002; clear HO492; clear BK488; clear HB; have HO_489001 := n0_; have HO_489002 := n1_; have HO492 := n2_; have HO495 := n3_; have BK488 := n4_; have HB := n5_; clear n0_ n1_ n2_ n3_ n4_ n5_; (try clear hb); (try clear hb2); (try clear hk); (try clear hi); (try clear ho0); obtain ⟨Ao45, co45, eo45⟩ := Kd.R_slice HO495.out; subst eo45) | ((with_reducible refine gate_builtin (b := .append) (xs := #[.tmp 69, .tmp 72]) rfl ?_); (try (refine gate_guard (by rfl) ?_; dsimp only)); at_builtin; refine Kd.R_append_rows Kd.string (w0 := w) w.heap.size rfl (.tmp 69) (.tmp 72) 27 9 (.string ⟨#[]⟩) 16 rfl Tryd.underlying27 info9 rfl (by decide) (by omega) v491 t490 t493 _ _ _ (fun k_ => some k_ ≠ (.slice Ao29 t481.length co29 : Value).ownBlock ∧ some k_ ≠ (.slice Ao30 t484.length co30 : Value).ownBlock ∧ some k_ ≠ (.slice Ao45 t493.length co45 : Value).ownBlock) (fun _ => False) rfl rfl ?aO ?aR (fun _ _ h => h) (fun _ h => h.elim) ?aF ?aB ?aS ?aL ?_; (case aR => exact upC ((Kd.R_reads' HO495.out).2.2)); (case aB => exact (by repeat (first | (with_reducible first | exact HB.out | apply below_alloc | apply pw_below_drewN | apply below_drew1 | refine below_set ?_ GE488.out) | exact HB.out))); (case aF => exact (fun k_ hk => ⟨Kd.fresh' (Kd.R_lt (by exact upR HO_489001.out)) k_ hk, Kd.fresh' (Kd.R_lt (by exact upR HO_489002.out)) k_ hk, Kd.fresh' (Kd.R_lt (by exact upR HO495.out)) k_ hk⟩)); (case aO => exact (by (with_reducible repeat (first | apply Kd.R_alloc | apply Kd.R_drewN | apply Kd.R_drew)); exact Kd.R_mono HO492.out (fun _ hk => ⟨hk.1.1.2, ⟨hk.1.2, hk.2⟩⟩))); (case aS => exact (below_size (by repeat (first | (with_reducible first | exact HB.out | apply below_alloc | apply pw_below_drewN | apply below_drew1 | refine below_set ?_ GE488.out) | exact HB.out)))); (case aL => have := LMc38.out; omega); intro v497 w44 ho hb hg hat; rw [← Ny496.out] at ho; have n0_ := Aside0.mk (Kd.R_after (ok := (fun k_ => some k_ ≠ (.slice Ao30 t484.length co30 : Value).ownBlock ∧ some k_ ≠ (.slice Ao45 t493.length co45 : Value).ownBlock)) (by (with_reducible repeat (first | apply Kd.R_alloc | apply Kd.R_drewN | apply Kd.R_drew)); exact Kd.R_mono HO_489001.out (fun _ hk => ⟨⟨hk.1.1, hk.2⟩, hk.1.2⟩)) hg hat); have n1_ := Aside0.mk (Kd.R_after (ok := (fun k_ => some k_ ≠ (.slice Ao29 t481.length co29 : Value).ownBlock ∧ some k_ ≠ (.slice Ao45 t493.length co45 : Value).ownBlock)) (by (with_reducible repeat (first | apply Kd.R_alloc | apply Kd.R_drewN | apply Kd.R_drew)); exact Kd.R_mono HO_489002.out (fun _ hk => ⟨⟨hk.1.1, hk.2⟩, hk.1.2⟩)) hg hat); have n2_ := Aside0.mk (blk_grown (g := gb488) (o := .cells #[.int .i64 t480, .slice Ao29 t481.length co29, .slice Ao30 t484.length co30] 29 (0, 0)) (by (with_reducible repeat (first | refine blk_drewN ?_ _ | refine blk_drew ?_ | refine blk_alloc ?_ _)); exact BK488.out) hg (Kd.R_ne HO492.out BK488.out (by decide))); have n3_ := Aside0.mk (Kd.R_after (ok := (fun k_ => some k_ ≠ (.slice Ao29 t481.length co29 : Value).ownBlock ∧ some k_ ≠ (.slice Ao30 t484.length co30 : Value).ownBlock)) (by (with_reducible repeat (first | apply Kd.R_alloc | apply Kd.R_drewN | apply Kd.R_drew)); exact Kd.R_mono HO495.out (fun _ hk => ⟨⟨hk.1.1.2, hk.1.2⟩, hk.2⟩)) hg hat); have n4_ := Aside0.mk (hb); have n5_ := Aside0.mk (ho); clear HO_489001; clear HO_489002; clear BK488; clear HO495; clear HB; clear HO492; have HO_489001 := n0_; have HO_489002 := n1_; have BK488 := n2_; have HO495 := n3_; have HB := n4_; have HO498 := n5_; clear n0_ n1_ n2_ n3_ n4_ n5_; clear ho hb hg hat; obtain ⟨Ao46, co46, eo46⟩ := Kd.R_slice HO498.out; subst eo46) | (go_at_call 18; (with_reducible refine (pandectref02_Shown.calls kj23 _ _ y496 t499 _ ?side1 ?side2 A39.out).mono ?_); (case side1 => exact upC ((Kd.R_reads' HO498.out).2.2)); (case side2 => exact (Kd.R_reads' HO498.out).2.1); rintro e w47 ⟨rfl, hb⟩; have n0_ := Aside0.mk (Kd.R_below (by exact upR HO_489001.out) hb); have n1_ := Aside0.mk (Kd.R_below (by exact upR HO_489002.out) hb); have n2_ := Aside0.mk (Kd.R_below (by exact upR HO495.out) hb); have n3_ := Aside0.mk (Kd.R_below (by exact upR HO498.out) hb); have n4_ := Aside0.mk (blk_below (g := gb488) (o := .cells #[.int .i64 t480, .slice Ao29 t481.length co29, .slice Ao30 t484.length co30] 29 (0, 0)) (by (with_reducible repeat (first | refine blk_drewN ?_ _ | refine blk_drew ?_ | refine blk_alloc ?_ _)); exact BK488.out) hb); have n5_ := Aside0.mk (below_step (by repeat (first | (with_reducible first | exact HB.out | apply below_alloc | apply pw_below_drewN | apply below_drew1 | refine below_set ?_ GE488.out) | exact HB.out)) hb); clear HO_489001; clear HO_489002; clear HO495; clear HO498; clear BK488; clear HB; have HO_489001 := n0_; have HO_489002 := n1_; have HO495 := n2_; have HO498 := n3_; have BK488 := n4_; have HB := n5_; clear n0_ n1_ n2_ n3_ n4_ n5_; (try clear hb); (try clear hb2); (try clear hk); (try clear hi)))
                        go_ret
                        exact ⟨by first | rfl | (simp [errW_none, errW_some] <;> rfl) | (simp only [← hji7, ← hji9]; first | rfl | (simp [errW_none, errW_some] <;> rfl)) | (simp [*, errW_none, errW_some] <;> rfl), by repeat (first | (with_reducible first | exact HB.out | apply below_alloc | apply pw_below_drewN | apply below_drew1 | refine below_set ?_ GE488.out) | exact HB.out)⟩
                      · rw [if_neg c38] at H
                        exact absurd H (by simp)
                    · replace c35 := Bool.eq_false_iff.mpr c35
                      subst c35
                      have H1 : (some false) = some r := by rw [if_neg (show ¬ (false = true) by decide)] at H; exact H
                      clear H
                      have H := H1
                      clear H1
                      obtain rfl := Option.some.inj H
                      have hcz50_0 : wc.cell? ⟨gb488, 0, none⟩ = some (.int .i64 t480) := (blk_cell BK488.out 0).trans rfl
                      have hcz50_1 : wc.cell? ⟨gb488, 1, none⟩ = some (.slice Ao29 t481.length co29) := (blk_cell BK488.out 1).trans rfl
                      have hcz50_2 : wc.cell? ⟨gb488, 2, none⟩ = some (.slice Ao30 t484.length co30) := (blk_cell BK488.out 2).trans rfl
                      have hfz50_0 := blk_frozen BK488.out 0
                      have hfz50_1 := blk_frozen BK488.out 1
                      have hfz50_2 := blk_frozen BK488.out 2
                      go_wp2_with (first | ((with_reducible refine gate_callee (f := 16) rfl ?_); refine goesL_ (some 62) rfl rfl Tryd.func16 (by kernel_rfl) rfl #[.string t478, .string a4, .agg #[.int .i64 t480, .slice Ao29 t481.length co29, .slice Ao30 t484.length co30]] rfl (by (try simp only [List.map_toArray, List.map_cons, List.map_nil]); first | done | rfl | (simp only [List.length_drop, List.length_take]; rfl)) ?_; (with_reducible refine (seal_Verify.calls kj23 t478 a4 t480 _ _ t481 _ _ t484 true _ ?side1 ?side2 ?side3 ?side4 ?side5 A33.out).mono ?_); (case side1 => exact upC ((Kd.R_reads' HO_489001.out).2.2)); (case side2 => exact (Kd.R_reads' HO_489001.out).2.1); (case side3 => exact upC ((Kd.R_reads' HO_489002.out).2.2)); (case side4 => exact (Kd.R_reads' HO_489002.out).2.1); (case side5 => exact tabs_below HT.out (by repeat (first | (with_reducible first | exact HB.out | apply below_alloc | apply pw_below_drewN | apply below_drew1 | refine below_set ?_ GE488.out) | exact HB.out))); rintro e w51 ⟨rfl, hb⟩; refine ⟨_, rfl, ?_⟩; have n0_ := Aside0.mk (Kd.R_below (by exact upR HO_489001.out) hb); have n1_ := Aside0.mk (Kd.R_below (by exact upR HO_489002.out) hb); have n2_ := Aside0.mk (blk_below (g := gb488) (o := .cells #[.int .i64 t480, .slice Ao29 t481.length co29, .slice Ao30 t484.length co30] 29 (0, 0)) (by (with_reducible repeat (first | refine blk_drewN ?_ _ | refine blk_drew ?_ | refine blk_alloc ?_ _)); exact BK488.out) hb); have n3_ := Aside0.mk (below_step (by repeat (first | (with_reducible first | exact HB.out | apply below_alloc | apply pw_below_drewN | apply below_drew1 | refine below_set ?_ GE488.out) | exact HB.out)) hb); clear HO_489001; clear HO_489002; clear BK488; clear HB; have HO_489001 := n0_; have HO_489002 := n1_; have BK488 := n2_; have HB := n3_; clear n0_ n1_ n2_ n3_; (try clear hb); (try clear hb2); (try clear hk); (try clear hi)))
                      go_ret
                      exact ⟨by first | rfl | (simp [errW_none, errW_some] <;> rfl) | (simp only [← hji7, ← hji9]; first | rfl | (simp [errW_none, errW_some] <;> rfl)) | (simp [*, errW_none, errW_some] <;> rfl), by repeat (first | (with_reducible first | exact HB.out | apply below_alloc | apply pw_below_drewN | apply below_drew1 | refine below_set ?_ GE488.out) | exact HB.out)⟩
                  · replace c34 := Bool.eq_false_iff.mpr c34
                    subst c34
                    have H1 : (some t473) = some r := by rw [if_neg (show ¬ (false = true) by decide)] at H; exact H
                    clear H
                    have H := H1
                    clear H1
                    obtain rfl := Option.some.inj H
                    have hcz52_0 : wc.cell? ⟨gb488, 0, none⟩ = some (.int .i64 t480) := (blk_cell BK488.out 0).trans rfl
                    have hcz52_1 : wc.cell? ⟨gb488, 1, none⟩ = some (.slice Ao29 t481.length co29) := (blk_cell BK488.out 1).trans rfl
                    have hcz52_2 : wc.cell? ⟨gb488, 2, none⟩ = some (.slice Ao30 t484.length co30) := (blk_cell BK488.out 2).trans rfl
                    have hfz52_0 := blk_frozen BK488.out 0
                    have hfz52_1 := blk_frozen BK488.out 1
                    have hfz52_2 := blk_frozen BK488.out 2
                    go_wp2_with (first | ((with_reducible refine gate_callee (f := 16) rfl ?_); refine goesL_ (some 62) rfl rfl Tryd.func16 (by kernel_rfl) rfl #[.string t478, .string a4, .agg #[.int .i64 t480, .slice Ao29 t481.length co29, .slice Ao30 t484.length co30]] rfl (by (try simp only [List.map_toArray, List.map_cons, List.map_nil]); first | done | rfl | (simp only [List.length_drop, List.length_take]; rfl)) ?_; (with_reducible refine (seal_Verify.calls kj23 t478 a4 t480 _ _ t481 _ _ t484 false _ ?side1 ?side2 ?side3 ?side4 ?side5 A33.out).mono ?_); (case side1 => exact upC ((Kd.R_reads' HO_489001.out).2.2)); (case side2 => exact (Kd.R_reads' HO_489001.out).2.1); (case side3 => exact upC ((Kd.R_reads' HO_489002.out).2.2)); (case side4 => exact (Kd.R_reads' HO_489002.out).2.1); (case side5 => exact tabs_below HT.out (by repeat (first | (with_reducible first | exact HB.out | apply below_alloc | apply pw_below_drewN | apply below_drew1 | refine below_set ?_ GE488.out) | exact HB.out))); rintro e w53 ⟨rfl, hb⟩; refine ⟨_, rfl, ?_⟩; have n0_ := Aside0.mk (Kd.R_below (by exact upR HO_489001.out) hb); have n1_ := Aside0.mk (Kd.R_below (by exact upR HO_489002.out) hb); have n2_ := Aside0.mk (blk_below (g := gb488) (o := .cells #[.int .i64 t480, .slice Ao29 t481.length co29, .slice Ao30 t484.length co30] 29 (0, 0)) (by (with_reducible repeat (first | refine blk_drewN ?_ _ | refine blk_drew ?_ | refine blk_alloc ?_ _)); exact BK488.out) hb); have n3_ := Aside0.mk (below_step (by repeat (first | (with_reducible first | exact HB.out | apply below_alloc | apply pw_below_drewN | apply below_drew1 | refine below_set ?_ GE488.out) | exact HB.out)) hb); clear HO_489001; clear HO_489002; clear BK488; clear HB; have HO_489001 := n0_; have HO_489002 := n1_; have BK488 := n2_; have HB := n3_; clear n0_ n1_ n2_ n3_; (try clear hb); (try clear hb2); (try clear hk); (try clear hi)))
                    go_ret
                    exact ⟨by first | rfl | (simp [errW_none, errW_some] <;> rfl) | (simp only [← hji7, ← hji9]; first | rfl | (simp [errW_none, errW_some] <;> rfl)) | (simp [*, errW_none, errW_some] <;> rfl), by repeat (first | (with_reducible first | exact HB.out | apply below_alloc | apply pw_below_drewN | apply below_drew1 | refine below_set ?_ GE488.out) | exact HB.out)⟩
  · rw [if_neg c8] at H
    exact absurd H (by simp)

end Go.Proofs.YtfhdknjccmcgdaaDoor.P
