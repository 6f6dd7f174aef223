import Derived.Test.YteofiiggnegnkaaDoorKPx0
import Derived.Test.YteofiiggnegnkaaDoorKPx1
import Derived.Test.YteofiiggnegnkaaDoorKPx2
import Derived.Test.YteofiiggnegnkaaDoorKPx3
import Derived.Test.YteofiiggnegnkaaDoorKPx4
import Derived.Test.YteofiiggnegnkaaDoorKBPx7
import Derived.Test.YteofiiggnegnkaaDoorKBPx11
import Derived.Test.YteofiiggnegnkaaDoorKBPx12
import Derived.Test.YteofiiggnegnkaaDoorKD
import Derived.Test.YteofiiggnegnkaaDoorKTb
set_option linter.unusedVariables false
set_option linter.unusedSimpArgs false
-- PRINTED by print.py (a twelfth state) out of the translation. Not trusted: Lean checks it.
namespace Go.Proofs.YteofiiggnegnkaaDoor.P
open Go.RowKit Go.Proofs.YteofiiggnegnkaaDoorW.PrintWords Go.Proofs.YteofiiggnegnkaaDoorW.PrintLast Go.Proofs.YteofiiggnegnkaaDoorW.PrintMore
attribute [local go_sem] max2_int min2_int max_two min_two max_three min_three max_four min_four   -- for this text's walks alone
set_option linter.unusedVariables false
set_option linter.unusedSimpArgs false

/-! ### pandectref02_PathTexts: function 24 -/
def pandectref02_PathTexts.f : Nat → Int → Int → ByteArray → List ByteArray → Option (List ByteArray)
  | 0, _, _, _, _ => none
  | k + 1, a0, a1, a2, l3 => if a0 = 1 then ((pandectref01_Joined.f k (([(⟨#[108, 101, 97, 102]⟩ : ByteArray), a2] : List ByteArray))).bind fun t518 => (some (([t518] : List ByteArray)))) else ((pandectref02_Half.f k a0).bind fun t522 => (if 0 ≤ (wrap64 ((l3.length : Int) - 1)) then (if (wrap64 ((l3.length : Int) - 1)) < (l3.length : Int) then (if (wrap64 ((l3.length : Int) - 1)) ≤ (l3.length : Int) then (if a1 < t522 then ((pandectref02_PathTexts.f k t522 a1 a2 (l3.take ((wrap64 ((l3.length : Int) - 1)) : Int).toNat)).bind fun t525 => ((pandectref02_leaf.f k a2).bind fun t528 => ((pandectref02_up.f k t522 a1 t528 (l3.take ((wrap64 ((l3.length : Int) - 1)) : Int).toNat)).bind fun t529 => ((pandectref01_Joined.f k (([(⟨#[110, 111, 100, 101]⟩ : ByteArray), t529, rdOf ByteArray.empty l3 (wrap64 ((l3.length : Int) - 1))] : List ByteArray))).bind fun t533 => (if t525.length < 8796093022208 then (some (t525 ++ [t533])) else (none)))))) else ((pandectref02_PathTexts.f k (wrap64 (a0 - t522)) (wrap64 (a1 - t522)) a2 (l3.take ((wrap64 ((l3.length : Int) - 1)) : Int).toNat)).bind fun t537 => ((pandectref02_leaf.f k a2).bind fun t540 => ((pandectref02_up.f k (wrap64 (a0 - t522)) (wrap64 (a1 - t522)) t540 (l3.take ((wrap64 ((l3.length : Int) - 1)) : Int).toNat)).bind fun t541 => ((pandectref01_Joined.f k (([(⟨#[110, 111, 100, 101]⟩ : ByteArray), rdOf ByteArray.empty l3 (wrap64 ((l3.length : Int) - 1)), t541] : List ByteArray))).bind fun t545 => (if t537.length < 8796093022208 then (some (t537 ++ [t545])) else (none))))))) else (none)) else (none)) else (none)))
set_option maxHeartbeats 8000000 in
set_option maxRecDepth 100000 in
theorem pandectref02_PathTexts.calls (k : Nat) : ∀ (a0 : Int) (a1 : Int) (a2 : ByteArray) (A3 : Option Addr) (c3 : Nat) (l3 : List ByteArray) (r : List ByteArray) (w : World) (hr3 : Kd.C Kd.string w A3 l3.length l3) (hc3 : l3.length ≤ c3) (h : pandectref02_PathTexts.f k a0 a1 a2 l3 = some r),
    Calls Tryd.prog 24 #[.int .i64 a0, .int .i64 a1, .string a2, .slice A3 l3.length c3] w fun e w' => ∃ v0_ : Value, e = .returned (v0_) ∧ Kd.R Kd.string 9 w' w.heap.size (fun _ => True) v0_ r ∧ Below w.heap.size w w' := by
  induction k using Nat.strongRecOn with
  | _ k ih =>
  intro a0 a1 a2 A3 c3 l3 r w hr3 hc3 h
  cases k with
  | zero => exact absurd h (by simp [pandectref02_PathTexts.f])
  | succ k =>
  simp only [pandectref02_PathTexts.f] at h
  have HR3 := Aside0.mk hr3
  have HC3 := Aside0.mk hc3
  clear hr3 hc3
  have HB := Aside0.mk (Below.refl w.heap.size w)
  have H : (if a0 = 1 then ((pandectref01_Joined.f k (([(⟨#[108, 101, 97, 102]⟩ : ByteArray), a2] : List ByteArray))).bind fun t518 => (some (([t518] : List ByteArray)))) else ((pandectref02_Half.f k a0).bind fun t522 => (if 0 ≤ (wrap64 ((l3.length : Int) - 1)) then (if (wrap64 ((l3.length : Int) - 1)) < (l3.length : Int) then (if (wrap64 ((l3.length : Int) - 1)) ≤ (l3.length : Int) then (if a1 < t522 then ((pandectref02_PathTexts.f k t522 a1 a2 (l3.take ((wrap64 ((l3.length : Int) - 1)) : Int).toNat)).bind fun t525 => ((pandectref02_leaf.f k a2).bind fun t528 => ((pandectref02_up.f k t522 a1 t528 (l3.take ((wrap64 ((l3.length : Int) - 1)) : Int).toNat)).bind fun t529 => ((pandectref01_Joined.f k (([(⟨#[110, 111, 100, 101]⟩ : ByteArray), t529, rdOf ByteArray.empty l3 (wrap64 ((l3.length : Int) - 1))] : List ByteArray))).bind fun t533 => (if t525.length < 8796093022208 then (some (t525 ++ [t533])) else (none)))))) else ((pandectref02_PathTexts.f k (wrap64 (a0 - t522)) (wrap64 (a1 - t522)) a2 (l3.take ((wrap64 ((l3.length : Int) - 1)) : Int).toNat)).bind fun t537 => ((pandectref02_leaf.f k a2).bind fun t540 => ((pandectref02_up.f k (wrap64 (a0 - t522)) (wrap64 (a1 - t522)) t540 (l3.take ((wrap64 ((l3.length : Int) - 1)) : Int).toNat)).bind fun t541 => ((pandectref01_Joined.f k (([(⟨#[110, 111, 100, 101]⟩ : ByteArray), rdOf ByteArray.empty l3 (wrap64 ((l3.length : Int) - 1)), t541] : List ByteArray))).bind fun t545 => (if t537.length < 8796093022208 then (some (t537 ++ [t545])) else (none))))))) else (none)) else (none)) else (none)))) = some r := h
  clear h
  by_cases c5 : a0 = 1
  · rw [if_pos c5] at H
    have c5b0 : (a0 == 1) = true := beq_iff_eq.mpr c5
    have c5b1 : (a0 != 1) = false := bne_eq_false_iff_eq.mpr c5
    clear c5
    obtain ⟨y515, hy515⟩ : ∃ y_ : List ByteArray, y_ = (([(⟨#[108, 101, 97, 102]⟩ : ByteArray), a2] : List ByteArray)) := ⟨_, rfl⟩
    replace H : ((pandectref01_Joined.f k y515).bind fun t518 => (some (([t518] : List ByteArray)))) = some r := by first | (rw [hy515]; with_reducible exact H) | (have H2_ := (Option.bind_some _ _).symm.trans H; rw [hy515]; with_reducible exact H2_) | (have H2_ := (Option.bind_some _ _).symm.trans H; with_reducible exact H2_) | with_reducible exact H | (rw [hy515]; exact H) | exact H
    have Ny515 := Aside0.mk hy515
    clear hy515
    replace H := Option.bind_eq_some_iff.mp H
    obtain ⟨t518, A60, H⟩ := H
    replace H : (some (([t518] : List ByteArray))) = some r := H
    have A6 := Aside0.mk A60
    clear A60
    obtain ⟨y519, hy519⟩ : ∃ y_ : List ByteArray, y_ = (([t518] : List ByteArray)) := ⟨_, rfl⟩
    replace H : (some y519) = some r := by first | (rw [hy519]; with_reducible exact H) | (have H2_ := (Option.bind_some _ _).symm.trans H; rw [hy519]; with_reducible exact H2_) | (have H2_ := (Option.bind_some _ _).symm.trans H; with_reducible exact H2_) | with_reducible exact H | (rw [hy519]; exact H) | exact H
    have Ny519 := Aside0.mk hy519
    clear hy519
    obtain rfl := Option.some.inj H
    go_enter Tryd.func24, Tryd.ntmps24
    go_wp2_with (first | ((with_reducible refine gate_dst (N := 15) rfl ?_); refine Kd.R_lit Kd.string _ 9 ?hg (N := 15) ?hd (xs := ([(⟨#[108, 101, 97, 102]⟩ : ByteArray), a2] : List ByteArray)) (inner := [.string (⟨#[108, 101, 97, 102]⟩ : ByteArray), .string a2]) (ok := fun _ => True) (okp := fun _ => True) ?hr ?hp (fun _ hk => hk) trivial (Below.refl _ _) (Nat.le_refl _) (by simp) ?_; (case hd => rfl); (case hg => rfl); (case hr => first | (go_simp; done) | (go_simp; rfl)); (case hp => exact (Reps.one (show Kd.M Kd.string _ _ _ (⟨#[108, 101, 97, 102]⟩ : ByteArray) [.string (⟨#[108, 101, 97, 102]⟩ : ByteArray)] from rfl) (Reps.one (show Kd.M Kd.string _ _ _ a2 [.string a2] from rfl) (Reps.none _ _)))); intro v516 w7 ho8 hb hg_ hnew_; clear hg_ hnew_; (first | rw [← Ny515.out] at ho8 | (simp only [Int.reduceToNat] at ho8; rw [← Ny515.out] at ho8)); have n0_ := Aside0.mk (Kd.R_lower ho8 (below_size (by first | exact upB HB.out | exact HB.out))); have n1_ := Aside0.mk (below_step (by first | exact upB HB.out | exact HB.out) hb); clear HB; have HO517 := n0_; have HB := n1_; clear n0_ n1_; clear hb ho8; obtain ⟨Ao9, co9, eo9⟩ := Kd.R_slice HO517.out; subst eo9) | ((with_reducible refine gate_callee (f := 49) rfl ?_); refine goesL_ (some 16) rfl rfl Tryd.func49 (by kernel_rfl) rfl #[.slice Ao9 y515.length co9] rfl (by (try simp only [List.map_toArray, List.map_cons, List.map_nil]); first | done | rfl | (simp only [List.length_drop, List.length_take]; rfl)) ?_; (with_reducible refine (pandectref01_Joined.calls k _ _ y515 t518 _ ?side1 ?side2 A6.out).mono ?_); (case side1 => exact upC ((Kd.R_reads' HO517.out).2.2)); (case side2 => exact (Kd.R_reads' HO517.out).2.1); rintro e w10 ⟨rfl, hb⟩; refine ⟨_, rfl, ?_⟩; have n0_ := Aside0.mk (Kd.R_below (by exact upR HO517.out) hb); have n1_ := Aside0.mk (below_step (by first | exact upB HB.out | exact HB.out) hb); clear HO517; clear HB; have HO517 := n0_; have HB := n1_; clear n0_ n1_; (try clear hb); (try clear hb2); (try clear hk); (try clear hi)) | ((with_reducible refine gate_dst (N := 17) rfl ?_); refine Kd.R_lit Kd.string _ 9 ?hg (N := 17) ?hd (xs := ([t518] : List ByteArray)) (inner := [.string t518]) (ok := fun _ => True) (okp := fun _ => True) ?hr ?hp (fun _ hk => hk) trivial (Below.refl _ _) (Nat.le_refl _) (by simp) ?_; (case hd => rfl); (case hg => rfl); (case hr => first | (go_simp; done) | (go_simp; rfl)); (case hp => exact (Reps.one (show Kd.M Kd.string _ _ _ t518 [.string t518] from rfl) (Reps.none _ _))); intro v520 w11 ho12 hb hg_ hnew_; clear hg_ hnew_; (first | rw [← Ny519.out] at ho12 | (simp only [Int.reduceToNat] at ho12; rw [← Ny519.out] at ho12)); have n0_ := Aside0.mk (Kd.R_elder' (by exact upR HO517.out) (Kd.R_base ho12) hb); have n1_ := Aside0.mk (Kd.R_lower (Kd.R_new' ho12 (Kd.R_lt (by exact upR HO517.out))) (below_size (by first | exact upB HB.out | exact HB.out))); have n2_ := Aside0.mk (below_step (by first | exact upB HB.out | exact HB.out) hb); clear HO517; clear HB; have HO517 := n0_; have HO521 := n1_; have HB := n2_; clear n0_ n1_ n2_; clear hb ho12))
    go_ret
    exact ⟨_, by first | rfl | (simp [errW_none, errW_some] <;> rfl) | (simp [*, errW_none, errW_some] <;> rfl), by (with_reducible repeat (first | apply Kd.R_alloc | apply Kd.R_drewN | apply Kd.R_drew)); exact Kd.R_mono HO521.out (fun _ hk => trivial), by first | exact upB HB.out | exact HB.out⟩
  · rw [if_neg c5] at H
    have c5b0 : (a0 == 1) = false := beq_eq_false_iff_ne.mpr c5
    have c5b1 : (a0 != 1) = true := bne_iff_ne.mpr c5
    replace H := Option.bind_eq_some_iff.mp H
    obtain ⟨t522, A130, H⟩ := H
    replace H : (if 0 ≤ (wrap64 ((l3.length : Int) - 1)) then (if (wrap64 ((l3.length : Int) - 1)) < (l3.length : Int) then (if (wrap64 ((l3.length : Int) - 1)) ≤ (l3.length : Int) then (if a1 < t522 then ((pandectref02_PathTexts.f k t522 a1 a2 (l3.take ((wrap64 ((l3.length : Int) - 1)) : Int).toNat)).bind fun t525 => ((pandectref02_leaf.f k a2).bind fun t528 => ((pandectref02_up.f k t522 a1 t528 (l3.take ((wrap64 ((l3.length : Int) - 1)) : Int).toNat)).bind fun t529 => ((pandectref01_Joined.f k (([(⟨#[110, 111, 100, 101]⟩ : ByteArray), t529, rdOf ByteArray.empty l3 (wrap64 ((l3.length : Int) - 1))] : List ByteArray))).bind fun t533 => (if t525.length < 8796093022208 then (some (t525 ++ [t533])) else (none)))))) else ((pandectref02_PathTexts.f k (wrap64 (a0 - t522)) (wrap64 (a1 - t522)) a2 (l3.take ((wrap64 ((l3.length : Int) - 1)) : Int).toNat)).bind fun t537 => ((pandectref02_leaf.f k a2).bind fun t540 => ((pandectref02_up.f k (wrap64 (a0 - t522)) (wrap64 (a1 - t522)) t540 (l3.take ((wrap64 ((l3.length : Int) - 1)) : Int).toNat)).bind fun t541 => ((pandectref01_Joined.f k (([(⟨#[110, 111, 100, 101]⟩ : ByteArray), rdOf ByteArray.empty l3 (wrap64 ((l3.length : Int) - 1)), t541] : List ByteArray))).bind fun t545 => (if t537.length < 8796093022208 then (some (t537 ++ [t545])) else (none))))))) else (none)) else (none)) else (none)) = some r := H
    have A13 := Aside0.mk A130
    clear A130
    obtain ⟨ji14, hji14⟩ : ∃ j_ : Int, (wrap64 ((l3.length : Int) - 1)) = j_ := ⟨_, rfl⟩
    replace H : (if 0 ≤ (ji14) then (if (ji14) < (l3.length : Int) then (if (ji14) ≤ (l3.length : Int) then (if a1 < t522 then ((pandectref02_PathTexts.f k t522 a1 a2 (l3.take ((ji14) : Int).toNat)).bind fun t525 => ((pandectref02_leaf.f k a2).bind fun t528 => ((pandectref02_up.f k t522 a1 t528 (l3.take ((ji14) : Int).toNat)).bind fun t529 => ((pandectref01_Joined.f k (([(⟨#[110, 111, 100, 101]⟩ : ByteArray), t529, rdOf ByteArray.empty l3 (ji14)] : List ByteArray))).bind fun t533 => (if t525.length < 8796093022208 then (some (t525 ++ [t533])) else (none)))))) else ((pandectref02_PathTexts.f k (wrap64 (a0 - t522)) (wrap64 (a1 - t522)) a2 (l3.take ((ji14) : Int).toNat)).bind fun t537 => ((pandectref02_leaf.f k a2).bind fun t540 => ((pandectref02_up.f k (wrap64 (a0 - t522)) (wrap64 (a1 - t522)) t540 (l3.take ((ji14) : Int).toNat)).bind fun t541 => ((pandectref01_Joined.f k (([(⟨#[110, 111, 100, 101]⟩ : ByteArray), rdOf ByteArray.empty l3 (ji14), t541] : List ByteArray))).bind fun t545 => (if t537.length < 8796093022208 then (some (t537 ++ [t545])) else (none))))))) else (none)) else (none)) else (none)) = some r := by first | (rw [hji14] at H; exact H) | (simp only [hji14] at H ⊢; exact H)
    (try rw [hji14] at A13)
    have hji14w : (IntKind.i64.wrap ((l3.length : Int) - 1)) = ji14 := (i64_w _).trans hji14
    by_cases c15 : 0 ≤ (ji14)
    · rw [if_pos c15] at H
      have c15b0 : decide (0 ≤ (ji14)) = true := decide_eq_true c15
      clear c15
      by_cases c16 : (ji14) < (l3.length : Int)
      · rw [if_pos c16] at H
        have c16b0 : decide ((ji14) < (l3.length : Int)) = true := decide_eq_true c16
        clear c16
        have c17b0 := eq_true (of_decide_eq_true (by first | (with_reducible assumption) | assumption) : 0 ≤ (ji14))
        by_cases c18 : (ji14) ≤ (l3.length : Int)
        · rw [if_pos c18] at H
          have c18b0 := eq_true c18
          have c18b1 : decide ((ji14) ≤ (l3.length : Int)) = true := decide_eq_true c18
          clear c18
          by_cases c19 : a1 < t522
          · rw [if_pos c19] at H
            have c19b0 : decide (a1 < t522) = true := decide_eq_true c19
            clear c19
            replace H := Option.bind_eq_some_iff.mp H
            obtain ⟨t525, A200, H⟩ := H
            replace H : ((pandectref02_leaf.f k a2).bind fun t528 => ((pandectref02_up.f k t522 a1 t528 (l3.take ((ji14) : Int).toNat)).bind fun t529 => ((pandectref01_Joined.f k (([(⟨#[110, 111, 100, 101]⟩ : ByteArray), t529, rdOf ByteArray.empty l3 (ji14)] : List ByteArray))).bind fun t533 => (if t525.length < 8796093022208 then (some (t525 ++ [t533])) else (none))))) = some r := H
            have A20 := Aside0.mk A200
            clear A200
            replace H := Option.bind_eq_some_iff.mp H
            obtain ⟨t528, A210, H⟩ := H
            replace H : ((pandectref02_up.f k t522 a1 t528 (l3.take ((ji14) : Int).toNat)).bind fun t529 => ((pandectref01_Joined.f k (([(⟨#[110, 111, 100, 101]⟩ : ByteArray), t529, rdOf ByteArray.empty l3 (ji14)] : List ByteArray))).bind fun t533 => (if t525.length < 8796093022208 then (some (t525 ++ [t533])) else (none)))) = some r := H
            have A21 := Aside0.mk A210
            clear A210
            replace H := Option.bind_eq_some_iff.mp H
            obtain ⟨t529, A220, H⟩ := H
            replace H : ((pandectref01_Joined.f k (([(⟨#[110, 111, 100, 101]⟩ : ByteArray), t529, rdOf ByteArray.empty l3 (ji14)] : List ByteArray))).bind fun t533 => (if t525.length < 8796093022208 then (some (t525 ++ [t533])) else (none))) = some r := H
            have A22 := Aside0.mk A220
            clear A220
            obtain ⟨y530, hy530⟩ : ∃ y_ : List ByteArray, y_ = (([(⟨#[110, 111, 100, 101]⟩ : ByteArray), t529, rdOf ByteArray.empty l3 (ji14)] : List ByteArray)) := ⟨_, rfl⟩
            replace H : ((pandectref01_Joined.f k y530).bind fun t533 => (if t525.length < 8796093022208 then (some (t525 ++ [t533])) else (none))) = some r := by first | (rw [hy530]; with_reducible exact H) | (have H2_ := (Option.bind_some _ _).symm.trans H; rw [hy530]; with_reducible exact H2_) | (have H2_ := (Option.bind_some _ _).symm.trans H; with_reducible exact H2_) | with_reducible exact H | (rw [hy530]; exact H) | exact H
            have Ny530 := Aside0.mk hy530
            clear hy530
            replace H := Option.bind_eq_some_iff.mp H
            obtain ⟨t533, A230, H⟩ := H
            replace H : (if t525.length < 8796093022208 then (some (t525 ++ [t533])) else (none)) = some r := H
            have A23 := Aside0.mk A230
            clear A230
            by_cases c24 : t525.length < 8796093022208
            · rw [if_pos c24] at H
              have LMc24 := Aside0.mk c24
              clear c24
              obtain ⟨y534, hy534⟩ : ∃ y_ : List ByteArray, y_ = (t525 ++ [t533]) := ⟨_, rfl⟩
              replace H : (some y534) = some r := by first | (rw [hy534]; with_reducible exact H) | (have H2_ := (Option.bind_some _ _).symm.trans H; rw [hy534]; with_reducible exact H2_) | (have H2_ := (Option.bind_some _ _).symm.trans H; with_reducible exact H2_) | with_reducible exact H | (rw [hy534]; exact H) | exact H
              have Ny534 := Aside0.mk hy534
              clear hy534
              obtain rfl := Option.some.inj H
              go_enter Tryd.func24, Tryd.ntmps24
              go_wp2_with (first | ((with_reducible refine gate_callee (f := 35) rfl ?_); refine goesL_ (some 19) rfl rfl Tryd.func35 (by kernel_rfl) rfl #[.int .i64 a0] rfl (by (try simp only [List.map_toArray, List.map_cons, List.map_nil]); first | done | rfl | (simp only [List.length_drop, List.length_take]; rfl)) ?_; (with_reducible refine (pandectref02_Half.calls k a0 t522 _ A13.out).mono ?_); rintro e w' ⟨rfl, ⟨nd, rfl⟩⟩; refine ⟨_, rfl, ?_⟩; have p523 : 0 ≤ ((ji14) : Int) := of_decide_eq_true (by first | (with_reducible assumption) | assumption); have q523 : (ji14) < (l3.length : Int) := of_decide_eq_true (by first | (with_reducible assumption) | assumption); obtain ⟨ad523, e523, hx523_0⟩ := Kd.at_string HR3.out (ji14) p523 q523; cases e523; replace p523 := eq_true p523; replace q523 := eq_true q523; obtain ⟨i025, hi025, _, hsz25, _⟩ := info_parts info9; obtain ⟨hcut25, hA25, hC25⟩ := print_take_of (P := Tryd.prog) Value.string (⟨#[]⟩ : ByteArray) 22 9 .i64 Tryd.underlying22 hi025 hsz25 (some ad523) c3 l3 (ji14) (of_decide_eq_true (by first | (with_reducible assumption) | assumption)) (of_decide_eq_true (by first | (with_reducible assumption) | assumption)) HC3.out; have HR524 := Aside0.mk (Kd.C_of_reads (h1 := fun _ => rfl) (hA25 _ (Kd.reads_of_C HR3.out))); have HC524 := Aside0.mk hC25; clear hA25 hC25 hi025 hsz25) | ((with_reducible refine gate_callee (f := 24) rfl ?_); refine goesL_ (some 38) rfl rfl Tryd.func24 (by kernel_rfl) rfl #[.int .i64 t522, .int .i64 a1, .string a2, .slice (some ad523) (l3.take ((ji14) : Int).toNat).length c3] rfl (by (try simp only [List.map_toArray, List.map_cons, List.map_nil]); first | done | (rw [show (l3.take ((ji14) : Int).toNat).length = (ji14).toNat from (by rw [List.length_take]; have h_ : ((ji14) : Int) ≤ (l3.length : Int) := of_decide_eq_true (by first | (with_reducible assumption) | assumption); omega)] <;> rfl) | (simp only [hji14]; rfl) | rfl | (simp only [List.length_drop, List.length_take]; rfl)) ?_; (with_reducible refine (ih k (by omega) t522 a1 a2 _ _ (l3.take ((ji14) : Int).toNat) t525 _ ?side1 ?side2 A20.out).mono ?_); (case side1 => exact upC (HR524.out)); (case side2 => exact HC524.out); rintro e w26 ⟨v526, rfl, ho0, hb⟩; refine ⟨_, rfl, ?_⟩; have n0_ := Aside0.mk (Kd.R_lower ho0 (below_size (by first | exact upB HB.out | exact HB.out))); have n1_ := Aside0.mk (below_step (by first | exact upB HB.out | exact HB.out) hb); clear HB; have HO527 := n0_; have HB := n1_; clear n0_ n1_; (try clear hb); (try clear hb2); (try clear hk); (try clear hi); (try clear ho0)) | ((with_reducible refine gate_callee (f := 34) rfl ?_); refine goesL_ (some 42) rfl rfl Tryd.func34 (by kernel_rfl) rfl #[.string a2] rfl (by (try simp only [List.map_toArray, List.map_cons, List.map_nil]); first | done | rfl | (simp only [List.length_drop, List.length_take]; rfl)) ?_; (with_reducible refine (pandectref02_leaf.calls k a2 t528 _ A21.out).mono ?_); rintro e w27 ⟨rfl, hb⟩; refine ⟨_, rfl, ?_⟩; have n0_ := Aside0.mk (Kd.R_below (by exact upR HO527.out) hb); have n1_ := Aside0.mk (below_step (by first | exact upB HB.out | exact HB.out) hb); clear HO527; clear HB; have HO527 := n0_; have HB := n1_; clear n0_ n1_; (try clear hb); (try clear hb2); (try clear hk); (try clear hi)) | ((with_reducible refine gate_callee (f := 44) rfl ?_); refine goesL_ (some 44) rfl rfl Tryd.func44 (by kernel_rfl) rfl #[.int .i64 t522, .int .i64 a1, .string t528, .slice (some ad523) (l3.take ((ji14) : Int).toNat).length c3] rfl (by (try simp only [List.map_toArray, List.map_cons, List.map_nil]); first | done | (rw [show (l3.take ((ji14) : Int).toNat).length = (ji14).toNat from (by rw [List.length_take]; have h_ : ((ji14) : Int) ≤ (l3.length : Int) := of_decide_eq_true (by first | (with_reducible assumption) | assumption); omega)] <;> rfl) | (simp only [hji14]; rfl) | rfl | (simp only [List.length_drop, List.length_take]; rfl)) ?_; (with_reducible refine (pandectref02_up.calls k t522 a1 t528 _ _ (l3.take ((ji14) : Int).toNat) t529 _ ?side1 ?side2 A22.out).mono ?_); (case side1 => exact upC ((Kd.C_below HR524.out HB.out))); (case side2 => exact HC524.out); rintro e w28 ⟨rfl, hb⟩; refine ⟨_, rfl, ?_⟩; have n0_ := Aside0.mk (Kd.R_below (by exact upR HO527.out) hb); have n1_ := Aside0.mk (below_step (by first | exact upB HB.out | exact HB.out) hb); clear HO527; clear HB; have HO527 := n0_; have HB := n1_; clear n0_ n1_; (try clear hb); (try clear hb2); (try clear hk); (try clear hi)) | ((with_reducible refine gate_dst (N := 46) rfl ?_); refine Kd.R_lit Kd.string _ 9 ?hg (N := 46) ?hd (xs := ([(⟨#[110, 111, 100, 101]⟩ : ByteArray), t529, rdOf ByteArray.empty l3 (ji14)] : List ByteArray)) (inner := [.string (⟨#[110, 111, 100, 101]⟩ : ByteArray), .string t529, .string (rdOf ByteArray.empty l3 (ji14))]) (ok := fun _ => True) (okp := fun _ => True) ?hr ?hp (fun _ hk => hk) trivial (Below.refl _ _) (Nat.le_refl _) (by simp) ?_; (case hd => rfl); (case hg => rfl); (case hr => first | (go_simp; done) | (go_simp; rfl)); (case hp => exact (Reps.one (show Kd.M Kd.string _ _ _ (⟨#[110, 111, 100, 101]⟩ : ByteArray) [.string (⟨#[110, 111, 100, 101]⟩ : ByteArray)] from rfl) (Reps.one (show Kd.M Kd.string _ _ _ t529 [.string t529] from rfl) (Reps.one (show Kd.M Kd.string _ _ _ (rdOf ByteArray.empty l3 (ji14)) [.string (rdOf ByteArray.empty l3 (ji14))] from rfl) (Reps.none _ _))))); intro v531 w29 ho30 hb hg_ hnew_; clear hg_ hnew_; (first | rw [← Ny530.out] at ho30 | (simp only [Int.reduceToNat] at ho30; rw [← Ny530.out] at ho30)); have n0_ := Aside0.mk (Kd.R_elder' (by exact upR HO527.out) (Kd.R_base ho30) hb); have n1_ := Aside0.mk (Kd.R_lower (Kd.R_new' ho30 (Kd.R_lt (by exact upR HO527.out))) (below_size (by first | exact upB HB.out | exact HB.out))); have n2_ := Aside0.mk (below_step (by first | exact upB HB.out | exact HB.out) hb); clear HO527; clear HB; have HO527 := n0_; have HO532 := n1_; have HB := n2_; clear n0_ n1_ n2_; clear hb ho30; obtain ⟨Ao31, co31, eo31⟩ := Kd.R_slice HO532.out; subst eo31) | ((with_reducible refine gate_callee (f := 49) rfl ?_); refine goesL_ (some 47) rfl rfl Tryd.func49 (by kernel_rfl) rfl #[.slice Ao31 y530.length co31] rfl (by (try simp only [List.map_toArray, List.map_cons, List.map_nil]); first | done | rfl | (simp only [List.length_drop, List.length_take]; rfl)) ?_; (with_reducible refine (pandectref01_Joined.calls k _ _ y530 t533 _ ?side1 ?side2 A23.out).mono ?_); (case side1 => exact upC ((Kd.R_reads' HO532.out).2.2)); (case side2 => exact (Kd.R_reads' HO532.out).2.1); rintro e w32 ⟨rfl, hb⟩; refine ⟨_, rfl, ?_⟩; have n0_ := Aside0.mk (Kd.R_below (by exact upR HO527.out) hb); have n1_ := Aside0.mk (Kd.R_below (by exact upR HO532.out) hb); have n2_ := Aside0.mk (below_step (by first | exact upB HB.out | exact HB.out) hb); clear HO527; clear HO532; clear HB; have HO527 := n0_; have HO532 := n1_; have HB := n2_; clear n0_ n1_ n2_; (try clear hb); (try clear hb2); (try clear hk); (try clear hi)) | ((with_reducible refine gate_builtin (b := .append) (xs := #[.tmp 38, .tmp 48]) rfl ?_); at_builtin; refine Kd.R_append Kd.string (w0 := w) w.heap.size rfl (.tmp 38) (.tmp 48) 22 9 (.string ⟨#[]⟩) 16 rfl Tryd.underlying22 info9 rfl (by decide) (by omega) v526 t525 t533 [.string t533] (fun k_ => some k_ ≠ (.slice Ao31 y530.length co31 : Value).ownBlock) (fun _ => False) rfl rfl ?aP (fun _ hk => hk.elim) ?aF ?aO ?aB ?aS ?aL ?_; (case aP => exact rfl); (case aB => exact (by first | exact upB HB.out | exact HB.out)); (case aF => exact (fun k_ hk => Kd.fresh' (Kd.R_lt (by exact upR HO532.out)) k_ hk)); (case aO => exact (by (with_reducible repeat (first | apply Kd.R_alloc | apply Kd.R_drewN | apply Kd.R_drew)); exact Kd.R_mono HO527.out (fun _ hk => hk.2))); (case aS => exact (below_size (by first | exact upB HB.out | exact HB.out))); (case aL => have := LMc24.out; omega); intro v535 w33 ho hb hg hat; rw [← Ny534.out] at ho; have n0_ := Aside0.mk (Kd.R_after (ok := (fun _ => True)) (by exact upR HO532.out) hg hat); have n1_ := Aside0.mk (hb); have n2_ := Aside0.mk (ho); clear HO532; clear HB; clear HO527; have HO532 := n0_; have HB := n1_; have HO536 := n2_; clear n0_ n1_ n2_; clear ho hb hg hat))
              go_ret
              exact ⟨_, by first | rfl | (simp [errW_none, errW_some] <;> rfl) | (simp only [← hji14]; first | rfl | (simp [errW_none, errW_some] <;> rfl)) | (simp [*, errW_none, errW_some] <;> rfl), by (with_reducible repeat (first | apply Kd.R_alloc | apply Kd.R_drewN | apply Kd.R_drew)); exact Kd.R_mono HO536.out (fun _ hk => trivial), by first | exact upB HB.out | exact HB.out⟩
            · rw [if_neg c24] at H
              exact absurd H (by simp)
          · rw [if_neg c19] at H
            have c19b0 : decide (a1 < t522) = false := decide_eq_false c19
            clear c19
            replace H := Option.bind_eq_some_iff.mp H
            obtain ⟨t537, A340, H⟩ := H
            replace H : ((pandectref02_leaf.f k a2).bind fun t540 => ((pandectref02_up.f k (wrap64 (a0 - t522)) (wrap64 (a1 - t522)) t540 (l3.take ((ji14) : Int).toNat)).bind fun t541 => ((pandectref01_Joined.f k (([(⟨#[110, 111, 100, 101]⟩ : ByteArray), rdOf ByteArray.empty l3 (ji14), t541] : List ByteArray))).bind fun t545 => (if t537.length < 8796093022208 then (some (t537 ++ [t545])) else (none))))) = some r := H
            have A34 := Aside0.mk A340
            clear A340
            replace H := Option.bind_eq_some_iff.mp H
            obtain ⟨t540, A350, H⟩ := H
            replace H : ((pandectref02_up.f k (wrap64 (a0 - t522)) (wrap64 (a1 - t522)) t540 (l3.take ((ji14) : Int).toNat)).bind fun t541 => ((pandectref01_Joined.f k (([(⟨#[110, 111, 100, 101]⟩ : ByteArray), rdOf ByteArray.empty l3 (ji14), t541] : List ByteArray))).bind fun t545 => (if t537.length < 8796093022208 then (some (t537 ++ [t545])) else (none)))) = some r := H
            have A35 := Aside0.mk A350
            clear A350
            replace H := Option.bind_eq_some_iff.mp H
            obtain ⟨t541, A360, H⟩ := H
            replace H : ((pandectref01_Joined.f k (([(⟨#[110, 111, 100, 101]⟩ : ByteArray), rdOf ByteArray.empty l3 (ji14), t541] : List ByteArray))).bind fun t545 => (if t537.length < 8796093022208 then (some (t537 ++ [t545])) else (none))) = some r := H
            have A36 := Aside0.mk A360
            clear A360
            obtain ⟨y542, hy542⟩ : ∃ y_ : List ByteArray, y_ = (([(⟨#[110, 111, 100, 101]⟩ : ByteArray), rdOf ByteArray.empty l3 (ji14), t541] : List ByteArray)) := ⟨_, rfl⟩
            replace H : ((pandectref01_Joined.f k y542).bind fun t545 => (if t537.length < 8796093022208 then (some (t537 ++ [t545])) else (none))) = some r := by first | (rw [hy542]; with_reducible exact H) | (have H2_ := (Option.bind_some _ _).symm.trans H; rw [hy542]; with_reducible exact H2_) | (have H2_ := (Option.bind_some _ _).symm.trans H; with_reducible exact H2_) | with_reducible exact H | (rw [hy542]; exact H) | exact H
            have Ny542 := Aside0.mk hy542
            clear hy542
            replace H := Option.bind_eq_some_iff.mp H
            obtain ⟨t545, A370, H⟩ := H
            replace H : (if t537.length < 8796093022208 then (some (t537 ++ [t545])) else (none)) = some r := H
            have A37 := Aside0.mk A370
            clear A370
            by_cases c38 : t537.length < 8796093022208
            · rw [if_pos c38] at H
              have LMc38 := Aside0.mk c38
              clear c38
              obtain ⟨y546, hy546⟩ : ∃ y_ : List ByteArray, y_ = (t537 ++ [t545]) := ⟨_, rfl⟩
              replace H : (some y546) = some r := by first | (rw [hy546]; with_reducible exact H) | (have H2_ := (Option.bind_some _ _).symm.trans H; rw [hy546]; with_reducible exact H2_) | (have H2_ := (Option.bind_some _ _).symm.trans H; with_reducible exact H2_) | with_reducible exact H | (rw [hy546]; exact H) | exact H
              have Ny546 := Aside0.mk hy546
              clear hy546
              obtain rfl := Option.some.inj H
              go_enter Tryd.func24, Tryd.ntmps24
              go_wp2_with (first | ((with_reducible refine gate_callee (f := 35) rfl ?_); refine goesL_ (some 19) rfl rfl Tryd.func35 (by kernel_rfl) rfl #[.int .i64 a0] rfl (by (try simp only [List.map_toArray, List.map_cons, List.map_nil]); first | done | rfl | (simp only [List.length_drop, List.length_take]; rfl)) ?_; (with_reducible refine (pandectref02_Half.calls k a0 t522 _ A13.out).mono ?_); rintro e w' ⟨rfl, ⟨nd, rfl⟩⟩; refine ⟨_, rfl, ?_⟩; have p523 : 0 ≤ ((ji14) : Int) := of_decide_eq_true (by first | (with_reducible assumption) | assumption); have q523 : (ji14) < (l3.length : Int) := of_decide_eq_true (by first | (with_reducible assumption) | assumption); obtain ⟨ad523, e523, hx523_0⟩ := Kd.at_string HR3.out (ji14) p523 q523; cases e523; replace p523 := eq_true p523; replace q523 := eq_true q523; (try clear hcut25); obtain ⟨i039, hi039, _, hsz39, _⟩ := info_parts info9; obtain ⟨hcut39, hA39, hC39⟩ := print_take_of (P := Tryd.prog) Value.string (⟨#[]⟩ : ByteArray) 22 9 .i64 Tryd.underlying22 hi039 hsz39 (some ad523) c3 l3 (ji14) (of_decide_eq_true (by first | (with_reducible assumption) | assumption)) (of_decide_eq_true (by first | (with_reducible assumption) | assumption)) HC3.out; have HR524 := Aside0.mk (Kd.C_of_reads (h1 := fun _ => rfl) (hA39 _ (Kd.reads_of_C HR3.out))); have HC524 := Aside0.mk hC39; clear hA39 hC39 hi039 hsz39) | ((with_reducible refine gate_callee (f := 24) rfl ?_); refine goesL_ (some 58) rfl rfl Tryd.func24 (by kernel_rfl) rfl #[.int .i64 (wrap64 (a0 - t522)), .int .i64 (wrap64 (a1 - t522)), .string a2, .slice (some ad523) (l3.take ((ji14) : Int).toNat).length c3] rfl (by (try simp only [List.map_toArray, List.map_cons, List.map_nil]); first | done | (rw [show (l3.take ((ji14) : Int).toNat).length = (ji14).toNat from (by rw [List.length_take]; have h_ : ((ji14) : Int) ≤ (l3.length : Int) := of_decide_eq_true (by first | (with_reducible assumption) | assumption); omega)] <;> rfl) | (simp only [hji14]; rfl) | rfl | (simp only [List.length_drop, List.length_take]; rfl)) ?_; (with_reducible refine (ih k (by omega) (wrap64 (a0 - t522)) (wrap64 (a1 - t522)) a2 _ _ (l3.take ((ji14) : Int).toNat) t537 _ ?side1 ?side2 A34.out).mono ?_); (case side1 => exact upC (HR524.out)); (case side2 => exact HC524.out); rintro e w40 ⟨v538, rfl, ho0, hb⟩; refine ⟨_, rfl, ?_⟩; have n0_ := Aside0.mk (Kd.R_lower ho0 (below_size (by first | exact upB HB.out | exact HB.out))); have n1_ := Aside0.mk (below_step (by first | exact upB HB.out | exact HB.out) hb); clear HB; have HO539 := n0_; have HB := n1_; clear n0_ n1_; (try clear hb); (try clear hb2); (try clear hk); (try clear hi); (try clear ho0)) | ((with_reducible refine gate_callee (f := 34) rfl ?_); refine goesL_ (some 67) rfl rfl Tryd.func34 (by kernel_rfl) rfl #[.string a2] rfl (by (try simp only [List.map_toArray, List.map_cons, List.map_nil]); first | done | rfl | (simp only [List.length_drop, List.length_take]; rfl)) ?_; (with_reducible refine (pandectref02_leaf.calls k a2 t540 _ A35.out).mono ?_); rintro e w41 ⟨rfl, hb⟩; refine ⟨_, rfl, ?_⟩; have n0_ := Aside0.mk (Kd.R_below (by exact upR HO539.out) hb); have n1_ := Aside0.mk (below_step (by first | exact upB HB.out | exact HB.out) hb); clear HO539; clear HB; have HO539 := n0_; have HB := n1_; clear n0_ n1_; (try clear hb); (try clear hb2); (try clear hk); (try clear hi)) | ((with_reducible refine gate_callee (f := 44) rfl ?_); refine goesL_ (some 69) rfl rfl Tryd.func44 (by kernel_rfl) rfl #[.int .i64 (wrap64 (a0 - t522)), .int .i64 (wrap64 (a1 - t522)), .string t540, .slice (some ad523) (l3.take ((ji14) : Int).toNat).length c3] rfl (by (try simp only [List.map_toArray, List.map_cons, List.map_nil]); first | done | (rw [show (l3.take ((ji14) : Int).toNat).length = (ji14).toNat from (by rw [List.length_take]; have h_ : ((ji14) : Int) ≤ (l3.length : Int) := of_decide_eq_true (by first | (with_reducible assumption) | assumption); omega)] <;> rfl) | (simp only [hji14]; rfl) | rfl | (simp only [List.length_drop, List.length_take]; rfl)) ?_; (with_reducible refine (pandectref02_up.calls k (wrap64 (a0 - t522)) (wrap64 (a1 - t522)) t540 _ _ (l3.take ((ji14) : Int).toNat) t541 _ ?side1 ?side2 A36.out).mono ?_); (case side1 => exact upC ((Kd.C_below HR524.out HB.out))); (case side2 => exact HC524.out); rintro e w42 ⟨rfl, hb⟩; refine ⟨_, rfl, ?_⟩; have n0_ := Aside0.mk (Kd.R_below (by exact upR HO539.out) hb); have n1_ := Aside0.mk (below_step (by first | exact upB HB.out | exact HB.out) hb); clear HO539; clear HB; have HO539 := n0_; have HB := n1_; clear n0_ n1_; (try clear hb); (try clear hb2); (try clear hk); (try clear hi)) | ((with_reducible refine gate_dst (N := 70) rfl ?_); refine Kd.R_lit Kd.string _ 9 ?hg (N := 70) ?hd (xs := ([(⟨#[110, 111, 100, 101]⟩ : ByteArray), rdOf ByteArray.empty l3 (ji14), t541] : List ByteArray)) (inner := [.string (⟨#[110, 111, 100, 101]⟩ : ByteArray), .string (rdOf ByteArray.empty l3 (ji14)), .string t541]) (ok := fun _ => True) (okp := fun _ => True) ?hr ?hp (fun _ hk => hk) trivial (Below.refl _ _) (Nat.le_refl _) (by simp) ?_; (case hd => rfl); (case hg => rfl); (case hr => first | (go_simp; done) | (go_simp; rfl)); (case hp => exact (Reps.one (show Kd.M Kd.string _ _ _ (⟨#[110, 111, 100, 101]⟩ : ByteArray) [.string (⟨#[110, 111, 100, 101]⟩ : ByteArray)] from rfl) (Reps.one (show Kd.M Kd.string _ _ _ (rdOf ByteArray.empty l3 (ji14)) [.string (rdOf ByteArray.empty l3 (ji14))] from rfl) (Reps.one (show Kd.M Kd.string _ _ _ t541 [.string t541] from rfl) (Reps.none _ _))))); intro v543 w43 ho44 hb hg_ hnew_; clear hg_ hnew_; (first | rw [← Ny542.out] at ho44 | (simp only [Int.reduceToNat] at ho44; rw [← Ny542.out] at ho44)); have n0_ := Aside0.mk (Kd.R_elder' (by exact upR HO539.out) (Kd.R_base ho44) hb); have n1_ := Aside0.mk (Kd.R_lower (Kd.R_new' ho44 (Kd.R_lt (by exact upR HO539.out))) (below_size (by first | exact upB HB.out | exact HB.out))); have n2_ := Aside0.mk (below_step (by first | exact upB HB.out | exact HB.out) hb); clear HO539; clear HB; have HO539 := n0_; have HO544 := n1_; have HB := n2_; clear n0_ n1_ n2_; clear hb ho44; obtain ⟨Ao45, co45, eo45⟩ := Kd.R_slice HO544.out; subst eo45) | ((with_reducible refine gate_callee (f := 49) rfl ?_); refine goesL_ (some 71) rfl rfl Tryd.func49 (by kernel_rfl) rfl #[.slice Ao45 y542.length co45] rfl (by (try simp only [List.map_toArray, List.map_cons, List.map_nil]); first | done | rfl | (simp only [List.length_drop, List.length_take]; rfl)) ?_; (with_reducible refine (pandectref01_Joined.calls k _ _ y542 t545 _ ?side1 ?side2 A37.out).mono ?_); (case side1 => exact upC ((Kd.R_reads' HO544.out).2.2)); (case side2 => exact (Kd.R_reads' HO544.out).2.1); rintro e w46 ⟨rfl, hb⟩; refine ⟨_, rfl, ?_⟩; have n0_ := Aside0.mk (Kd.R_below (by exact upR HO539.out) hb); have n1_ := Aside0.mk (Kd.R_below (by exact upR HO544.out) hb); have n2_ := Aside0.mk (below_step (by first | exact upB HB.out | exact HB.out) hb); clear HO539; clear HO544; clear HB; have HO539 := n0_; have HO544 := n1_; have HB := n2_; clear n0_ n1_ n2_; (try clear hb); (try clear hb2); (try clear hk); (try clear hi)) | ((with_reducible refine gate_builtin (b := .append) (xs := #[.tmp 58, .tmp 72]) rfl ?_); at_builtin; refine Kd.R_append Kd.string (w0 := w) w.heap.size rfl (.tmp 58) (.tmp 72) 22 9 (.string ⟨#[]⟩) 16 rfl Tryd.underlying22 info9 rfl (by decide) (by omega) v538 t537 t545 [.string t545] (fun k_ => some k_ ≠ (.slice Ao45 y542.length co45 : Value).ownBlock) (fun _ => False) rfl rfl ?aP (fun _ hk => hk.elim) ?aF ?aO ?aB ?aS ?aL ?_; (case aP => exact rfl); (case aB => exact (by first | exact upB HB.out | exact HB.out)); (case aF => exact (fun k_ hk => Kd.fresh' (Kd.R_lt (by exact upR HO544.out)) k_ hk)); (case aO => exact (by (with_reducible repeat (first | apply Kd.R_alloc | apply Kd.R_drewN | apply Kd.R_drew)); exact Kd.R_mono HO539.out (fun _ hk => hk.2))); (case aS => exact (below_size (by first | exact upB HB.out | exact HB.out))); (case aL => have := LMc38.out; omega); intro v547 w47 ho hb hg hat; rw [← Ny546.out] at ho; have n0_ := Aside0.mk (Kd.R_after (ok := (fun _ => True)) (by exact upR HO544.out) hg hat); have n1_ := Aside0.mk (hb); have n2_ := Aside0.mk (ho); clear HO544; clear HB; clear HO539; have HO544 := n0_; have HB := n1_; have HO548 := n2_; clear n0_ n1_ n2_; clear ho hb hg hat))
              go_ret
              exact ⟨_, by first | rfl | (simp [errW_none, errW_some] <;> rfl) | (simp only [← hji14]; first | rfl | (simp [errW_none, errW_some] <;> rfl)) | (simp [*, errW_none, errW_some] <;> rfl), by (with_reducible repeat (first | apply Kd.R_alloc | apply Kd.R_drewN | apply Kd.R_drew)); exact Kd.R_mono HO548.out (fun _ hk => trivial), by first | exact upB HB.out | exact HB.out⟩
            · rw [if_neg c38] at H
              exact absurd H (by simp)
        · rw [if_neg c18] at H
          exact absurd H (by simp)
      · rw [if_neg c16] at H
        exact absurd H (by simp)
    · rw [if_neg c15] at H
      exact absurd H (by simp)

/-! ### pandectlaw02_TreeBinds: function 5 -/
mutual
def pandectlaw02_TreeBinds.j0 : Nat → List ByteArray → Int → ByteArray → List ByteArray → Bool → Bool → Option (Bool)
  | 0, _, _, _, _, _, _ => none
  | k + 1, x0, x1, x2, x3, x9, x31 => if x31 = true then (some x9) else (if (x0.length : Int) = 0 then (none) else (if 0 ≤ (Int.tmod (wrap64 (x1)) (x0.length : Int)) then (if (Int.tmod (wrap64 (x1)) (x0.length : Int)) < (x0.length : Int) then (if x2.toList = (rdOf ByteArray.empty x0 (Int.tmod (wrap64 (x1)) (x0.length : Int))).toList then (pandectlaw02_TreeBinds.j1 k x0 x2 x3 x9 (Int.tmod (wrap64 (x1)) (x0.length : Int)) true) else ((tree_Root.f k x0).bind fun t553 => ((tree_Check.f t553 (x0.length : Int) (Int.tmod (wrap64 (x1)) (x0.length : Int)) x2 x3).bind fun t554 => (pandectlaw02_TreeBinds.j1 k x0 x2 x3 x9 (Int.tmod (wrap64 (x1)) (x0.length : Int)) (!t554))))) else (none)) else (none)))
def pandectlaw02_TreeBinds.j1 : Nat → List ByteArray → ByteArray → List ByteArray → Bool → Int → Bool → Option (Bool)
  | 0, _, _, _, _, _, _ => none
  | k + 1, x0, x2, x3, x9, x10, x54 => if x54 = true then (some x9) else ((tree_Path.f k x0 x10).bind fun bt555 => (if bt555.2 = 0 then (pandectlaw02_TreeBinds.j2 k x0 x2 x3 x9 x10 ((bt555.1.length : Int) != (x3.length : Int))) else (pandectlaw02_TreeBinds.j2 k x0 x2 x3 x9 x10 true)))
def pandectlaw02_TreeBinds.j2 : Nat → List ByteArray → ByteArray → List ByteArray → Bool → Int → Bool → Option (Bool)
  | 0, _, _, _, _, _, _ => none
  | k + 1, x0, x2, x3, x9, x10, x70 => if x70 = true then (some false) else (if x9 = true then ((pandectref02_Texts.f k x0).bind fun t559 => ((pandectref02_PathTexts.f k (x0.length : Int) x10 x2 x3).bind fun t562 => (if t559.length + t562.length < 8796093022208 then ((pandectref02_Shown.f k (t559 ++ t562)).bind fun t568 => (some t568)) else (none)))) else (some false))
end
def pandectlaw02_TreeBinds.f (k : Nat) (l0 : List ByteArray) (a1 : Int) (a2 : ByteArray) (l3 : List ByteArray) : Option (Bool) := (pandectlaw02_head.f k).bind fun t549 => ((pandectlaw02_few.f k l0).bind fun t550 => (if t550 = true then ((pandectlaw02_few.f k l3).bind fun t551 => (if t551 = true then (if (a2.size : Int) > 100 then (pandectlaw02_TreeBinds.j0 k l0 a1 a2 l3 t549 true) else (pandectlaw02_TreeBinds.j0 k l0 a1 a2 l3 t549 ((l0.length : Int) == 0))) else (pandectlaw02_TreeBinds.j0 k l0 a1 a2 l3 t549 true))) else (pandectlaw02_TreeBinds.j0 k l0 a1 a2 l3 t549 true)))
set_option maxHeartbeats 8000000 in
set_option maxRecDepth 100000 in
theorem pandectlaw02_TreeBinds.calls (k : Nat) (A0 : Option Addr) (c0 : Nat) (l0 : List ByteArray) (a1 : Int) (a2 : ByteArray) (A3 : Option Addr) (c3 : Nat) (l3 : List ByteArray) (r : Bool) (w : World) (hr0 : Kd.C Kd.string w A0 l0.length l0) (hc0 : l0.length ≤ c0) (hr3 : Kd.C Kd.string w A3 l3.length l3) (hc3 : l3.length ≤ c3) (hT : Tabs w) (h : pandectlaw02_TreeBinds.f k l0 a1 a2 l3 = some r) :
    Calls Tryd.prog 5 #[.slice A0 l0.length c0, .int .u8 a1, .string a2, .slice A3 l3.length c3] w fun e w' => e = .returned (.bool r) ∧ Below w.heap.size w w' := by
  have HT := Aside0.mk hT
  clear hT
  have HR0 := Aside0.mk hr0
  have HC0 := Aside0.mk hc0
  clear hr0 hc0
  have HR3 := Aside0.mk hr3
  have HC3 := Aside0.mk hc3
  clear hr3 hc3
  have HB := Aside0.mk (Below.refl w.heap.size w)
  have H : ((pandectlaw02_head.f k).bind fun t549 => ((pandectlaw02_few.f k l0).bind fun t550 => (if t550 = true then ((pandectlaw02_few.f k l3).bind fun t551 => (if t551 = true then (if (a2.size : Int) > 100 then (pandectlaw02_TreeBinds.j0 k l0 a1 a2 l3 t549 true) else (pandectlaw02_TreeBinds.j0 k l0 a1 a2 l3 t549 ((l0.length : Int) == 0))) else (pandectlaw02_TreeBinds.j0 k l0 a1 a2 l3 t549 true))) else (pandectlaw02_TreeBinds.j0 k l0 a1 a2 l3 t549 true)))) = some r := h
  clear h
  replace H := Option.bind_eq_some_iff.mp H
  obtain ⟨t549, A50, H⟩ := H
  replace H : ((pandectlaw02_few.f k l0).bind fun t550 => (if t550 = true then ((pandectlaw02_few.f k l3).bind fun t551 => (if t551 = true then (if (a2.size : Int) > 100 then (pandectlaw02_TreeBinds.j0 k l0 a1 a2 l3 t549 true) else (pandectlaw02_TreeBinds.j0 k l0 a1 a2 l3 t549 ((l0.length : Int) == 0))) else (pandectlaw02_TreeBinds.j0 k l0 a1 a2 l3 t549 true))) else (pandectlaw02_TreeBinds.j0 k l0 a1 a2 l3 t549 true))) = some r := H
  have A5 := Aside0.mk A50
  clear A50
  have HC6 := Aside0.mk H
  clear H
  go_enter Tryd.func5, Tryd.ntmps5
  go_upto_region 2 with (first | ((with_reducible refine gate_callee (f := 9) rfl ?_); refine goesL_ (some 13) rfl rfl Tryd.func9 (by kernel_rfl) rfl #[] rfl (by (try simp only [List.map_toArray, List.map_cons, List.map_nil]); first | done | rfl | (simp only [List.length_drop, List.length_take]; rfl)) ?_; (with_reducible refine (pandectlaw02_head.calls k  t549 _ ?side1 A5.out).mono ?_); (case side1 => exact tabs_below HT.out (by first | exact upB HB.out | exact HB.out)); rintro e w7 ⟨rfl, hb⟩; refine ⟨_, rfl, ?_⟩; have n0_ := Aside0.mk (below_step (by first | exact upB HB.out | exact HB.out) hb); clear HB; have HB := n0_; clear n0_; (try clear hb); (try clear hb2); (try clear hk); (try clear hi)))
  (try simp only [Act.put, List.setIfInBounds_toArray, List.set_cons_zero, List.set_cons_succ])
  go_cut [31] (fun v31 wc => ∃ (kq : Nat) (x31_5 : Bool), v31 = .bool x31_5 ∧ Aside0 (pandectlaw02_TreeBinds.j0 kq l0 a1 a2 l3 t549 x31_5 = some r) ∧ Aside0 (kq ≤ k) ∧ Aside0 (Below w.heap.size w wc))
  case first =>
    have H := HC6.out
    clear HC6
    replace H := Option.bind_eq_some_iff.mp H
    obtain ⟨t550, A80, H⟩ := H
    replace H : (if t550 = true then ((pandectlaw02_few.f k l3).bind fun t551 => (if t551 = true then (if (a2.size : Int) > 100 then (pandectlaw02_TreeBinds.j0 k l0 a1 a2 l3 t549 true) else (pandectlaw02_TreeBinds.j0 k l0 a1 a2 l3 t549 ((l0.length : Int) == 0))) else (pandectlaw02_TreeBinds.j0 k l0 a1 a2 l3 t549 true))) else (pandectlaw02_TreeBinds.j0 k l0 a1 a2 l3 t549 true)) = some r := H
    have A8 := Aside0.mk A80
    clear A80
    by_cases c9 : t550 = true
    · subst c9
      have H1 : ((pandectlaw02_few.f k l3).bind fun t551 => (if t551 = true then (if (a2.size : Int) > 100 then (pandectlaw02_TreeBinds.j0 k l0 a1 a2 l3 t549 true) else (pandectlaw02_TreeBinds.j0 k l0 a1 a2 l3 t549 ((l0.length : Int) == 0))) else (pandectlaw02_TreeBinds.j0 k l0 a1 a2 l3 t549 true))) = some r := by rw [if_pos rfl] at H; exact H
      clear H
      have H := H1
      clear H1
      replace H := Option.bind_eq_some_iff.mp H
      obtain ⟨t551, A100, H⟩ := H
      replace H : (if t551 = true then (if (a2.size : Int) > 100 then (pandectlaw02_TreeBinds.j0 k l0 a1 a2 l3 t549 true) else (pandectlaw02_TreeBinds.j0 k l0 a1 a2 l3 t549 ((l0.length : Int) == 0))) else (pandectlaw02_TreeBinds.j0 k l0 a1 a2 l3 t549 true)) = some r := H
      have A10 := Aside0.mk A100
      clear A100
      by_cases c11 : t551 = true
      · subst c11
        have H1 : (if (a2.size : Int) > 100 then (pandectlaw02_TreeBinds.j0 k l0 a1 a2 l3 t549 true) else (pandectlaw02_TreeBinds.j0 k l0 a1 a2 l3 t549 ((l0.length : Int) == 0))) = some r := by rw [if_pos rfl] at H; exact H
        clear H
        have H := H1
        clear H1
        by_cases c12 : (a2.size : Int) > 100
        · rw [if_pos c12] at H
          have c12b0 : decide (100 < (a2.size : Int)) = true := decide_eq_true c12
          have c12b1 : decide (100 < a2.size) = true := decide_eq_true (by omega)
          clear c12
          (first | rw [c12b0] | (simp only [i64_w, i32_w]; rw [c12b0]) | skip)
          have H' := Aside0.mk H
          clear H
          have tk13_ : True := trivial
          have tk14_ : True := trivial
          go_wp2_with (first | ((with_reducible refine gate_callee (f := 10) rfl ?_); clear tk13_; refine goesL_ (some 15) rfl rfl Tryd.func10 (by kernel_rfl) rfl #[.slice A0 l0.length c0] rfl (by (try simp only [List.map_toArray, List.map_cons, List.map_nil]); first | done | rfl | (simp only [List.length_drop, List.length_take]; rfl)) ?_; (with_reducible refine (pandectlaw02_few.calls k _ _ l0 true _ ?side1 ?side2 A8.out).mono ?_); (case side1 => exact upC ((Kd.C_below HR0.out HB.out))); (case side2 => exact HC0.out); rintro e w' ⟨rfl, ⟨nd, rfl⟩⟩; refine ⟨_, rfl, ?_⟩) | (go_at_call 10; clear tk14_; (with_reducible refine (pandectlaw02_few.calls k _ _ l3 true _ ?side1 ?side2 A10.out).mono ?_); (case side1 => repeat (first | exact (Kd.C_below HR3.out (by first | exact upB HB.out | exact HB.out)) | (with_reducible refine Kd.C_alloc ?_ _) | (with_reducible refine Kd.C_drewN ?_ _) | (with_reducible refine Kd.C_drew ?_))); (case side2 => exact HC3.out); rintro e w' ⟨rfl, ⟨nd, rfl⟩⟩))
          go_meet
          case rel => exact ⟨_, (true), (by first | rfl | (simp; done) | (simp [*]; done)), H', ⟨by first | omega | exact Nat.le_refl _⟩, ⟨by first | exact upB HB.out | exact HB.out⟩⟩
        · rw [if_neg c12] at H
          have c12b0 : decide (100 < (a2.size : Int)) = false := decide_eq_false c12
          have c12b1 : decide (100 < a2.size) = false := decide_eq_false (by omega)
          clear c12
          (first | rw [c12b0] | (simp only [i64_w, i32_w]; rw [c12b0]) | skip)
          have H' := Aside0.mk H
          clear H
          have tk15_ : True := trivial
          have tk16_ : True := trivial
          go_wp2_with (first | ((with_reducible refine gate_callee (f := 10) rfl ?_); clear tk15_; refine goesL_ (some 15) rfl rfl Tryd.func10 (by kernel_rfl) rfl #[.slice A0 l0.length c0] rfl (by (try simp only [List.map_toArray, List.map_cons, List.map_nil]); first | done | rfl | (simp only [List.length_drop, List.length_take]; rfl)) ?_; (with_reducible refine (pandectlaw02_few.calls k _ _ l0 true _ ?side1 ?side2 A8.out).mono ?_); (case side1 => exact upC ((Kd.C_below HR0.out HB.out))); (case side2 => exact HC0.out); rintro e w' ⟨rfl, ⟨nd, rfl⟩⟩; refine ⟨_, rfl, ?_⟩) | (go_at_call 10; clear tk16_; (with_reducible refine (pandectlaw02_few.calls k _ _ l3 true _ ?side1 ?side2 A10.out).mono ?_); (case side1 => repeat (first | exact (Kd.C_below HR3.out (by first | exact upB HB.out | exact HB.out)) | (with_reducible refine Kd.C_alloc ?_ _) | (with_reducible refine Kd.C_drewN ?_ _) | (with_reducible refine Kd.C_drew ?_))); (case side2 => exact HC3.out); rintro e w' ⟨rfl, ⟨nd, rfl⟩⟩))
          go_meet
          case rel => exact ⟨_, (((l0.length : Int) == 0)), (by first | rfl | (simp; done) | (simp [*]; done)), H', ⟨by first | omega | exact Nat.le_refl _⟩, ⟨by first | exact upB HB.out | exact HB.out⟩⟩
      · replace c11 := Bool.eq_false_iff.mpr c11
        subst c11
        have H1 : (pandectlaw02_TreeBinds.j0 k l0 a1 a2 l3 t549 true) = some r := by rw [if_neg (show ¬ (false = true) by decide)] at H; exact H
        clear H
        have H := H1
        clear H1
        have H' := Aside0.mk H
        clear H
        have tk17_ : True := trivial
        have tk18_ : True := trivial
        go_wp2_with (first | ((with_reducible refine gate_callee (f := 10) rfl ?_); clear tk17_; refine goesL_ (some 15) rfl rfl Tryd.func10 (by kernel_rfl) rfl #[.slice A0 l0.length c0] rfl (by (try simp only [List.map_toArray, List.map_cons, List.map_nil]); first | done | rfl | (simp only [List.length_drop, List.length_take]; rfl)) ?_; (with_reducible refine (pandectlaw02_few.calls k _ _ l0 true _ ?side1 ?side2 A8.out).mono ?_); (case side1 => exact upC ((Kd.C_below HR0.out HB.out))); (case side2 => exact HC0.out); rintro e w' ⟨rfl, ⟨nd, rfl⟩⟩; refine ⟨_, rfl, ?_⟩) | (go_at_call 10; clear tk18_; (with_reducible refine (pandectlaw02_few.calls k _ _ l3 false _ ?side1 ?side2 A10.out).mono ?_); (case side1 => repeat (first | exact (Kd.C_below HR3.out (by first | exact upB HB.out | exact HB.out)) | (with_reducible refine Kd.C_alloc ?_ _) | (with_reducible refine Kd.C_drewN ?_ _) | (with_reducible refine Kd.C_drew ?_))); (case side2 => exact HC3.out); rintro e w' ⟨rfl, ⟨nd, rfl⟩⟩))
        go_meet
        case rel => exact ⟨_, (true), (by first | rfl | (simp; done) | (simp [*]; done)), H', ⟨by first | omega | exact Nat.le_refl _⟩, ⟨by first | exact upB HB.out | exact HB.out⟩⟩
    · replace c9 := Bool.eq_false_iff.mpr c9
      subst c9
      have H1 : (pandectlaw02_TreeBinds.j0 k l0 a1 a2 l3 t549 true) = some r := by rw [if_neg (show ¬ (false = true) by decide)] at H; exact H
      clear H
      have H := H1
      clear H1
      have H' := Aside0.mk H
      clear H
      go_wp2_with (first | ((with_reducible refine gate_callee (f := 10) rfl ?_); refine goesL_ (some 15) rfl rfl Tryd.func10 (by kernel_rfl) rfl #[.slice A0 l0.length c0] rfl (by (try simp only [List.map_toArray, List.map_cons, List.map_nil]); first | done | rfl | (simp only [List.length_drop, List.length_take]; rfl)) ?_; (with_reducible refine (pandectlaw02_few.calls k _ _ l0 false _ ?side1 ?side2 A8.out).mono ?_); (case side1 => exact upC ((Kd.C_below HR0.out HB.out))); (case side2 => exact HC0.out); rintro e w' ⟨rfl, ⟨nd, rfl⟩⟩; refine ⟨_, rfl, ?_⟩))
      go_meet
      case rel => exact ⟨_, (true), (by first | rfl | (simp; done) | (simp [*]; done)), H', ⟨by first | omega | exact Nat.le_refl _⟩, ⟨by first | exact upB HB.out | exact HB.out⟩⟩
  case rest =>
    clear HC6
    try clear c1
    try clear p2
    try clear c3
    try clear c5
    try clear c9
    try clear c10
    try clear c11
    try clear c12
    try clear c12b0
    try clear c12b1
    obtain ⟨kq, x31_5, rfl, HA, HJ5, HB⟩ := hcut
    cases kq with
    | zero => exact absurd HA.out (by simp [pandectlaw02_TreeBinds.j0])
    | succ kj5 =>
      have H := HA.out
      clear HA
      simp only [pandectlaw02_TreeBinds.j0] at H
      by_cases c19 : x31_5 = true
      · subst c19
        have H1 : (some t549) = some r := by rw [if_pos rfl] at H; exact H
        clear H
        have H := H1
        clear H1
        obtain rfl := Option.some.inj H
        go_wp2
        go_ret
        exact ⟨by first | rfl | (simp [errW_none, errW_some] <;> rfl) | (simp [*, errW_none, errW_some] <;> rfl), by first | exact upB HB.out | exact HB.out⟩
      · replace c19 := Bool.eq_false_iff.mpr c19
        subst c19
        have H1 : (if (l0.length : Int) = 0 then (none) else (if 0 ≤ (Int.tmod (wrap64 (a1)) (l0.length : Int)) then (if (Int.tmod (wrap64 (a1)) (l0.length : Int)) < (l0.length : Int) then (if a2.toList = (rdOf ByteArray.empty l0 (Int.tmod (wrap64 (a1)) (l0.length : Int))).toList then (pandectlaw02_TreeBinds.j1 kj5 l0 a2 l3 t549 (Int.tmod (wrap64 (a1)) (l0.length : Int)) true) else ((tree_Root.f kj5 l0).bind fun t553 => ((tree_Check.f t553 (l0.length : Int) (Int.tmod (wrap64 (a1)) (l0.length : Int)) a2 l3).bind fun t554 => (pandectlaw02_TreeBinds.j1 kj5 l0 a2 l3 t549 (Int.tmod (wrap64 (a1)) (l0.length : Int)) (!t554))))) else (none)) else (none))) = some r := by rw [if_neg (show ¬ (false = true) by decide)] at H; exact H
        clear H
        have H := H1
        clear H1
        by_cases c20 : (l0.length : Int) = 0
        · rw [if_pos c20] at H
          exact absurd H (by simp)
        · rw [if_neg c20] at H
          have c20b0 : ((l0.length : Int) == 0) = false := beq_eq_false_iff_ne.mpr c20
          have c20b1 : ((l0.length : Int) != 0) = true := bne_iff_ne.mpr c20
          have c20b2 : ¬ (l0 = []) := fun h_ => c20 (by rw [h_]; rfl)
          have HC21 := Aside0.mk H
          clear H
          go_upto_region 5 with (fail)
          go_cut [54] (fun v54 wc => ∃ (kq : Nat) (x54_20 : Bool), v54 = .bool x54_20 ∧ Aside0 (pandectlaw02_TreeBinds.j1 kq l0 a2 l3 t549 (Int.tmod (wrap64 (a1)) (l0.length : Int)) x54_20 = some r) ∧ Aside0 (kq ≤ kj5) ∧ Aside0 (Below w.heap.size w wc))
          case first =>
            have H := HC21.out
            clear HC21
            obtain ⟨ji22, hji22⟩ : ∃ j_ : Int, (Int.tmod (wrap64 (a1)) (l0.length : Int)) = j_ := ⟨_, rfl⟩
            replace H : (if 0 ≤ (ji22) then (if (ji22) < (l0.length : Int) then (if a2.toList = (rdOf ByteArray.empty l0 (ji22)).toList then (pandectlaw02_TreeBinds.j1 kj5 l0 a2 l3 t549 ji22 true) else ((tree_Root.f kj5 l0).bind fun t553 => ((tree_Check.f t553 (l0.length : Int) (ji22) a2 l3).bind fun t554 => (pandectlaw02_TreeBinds.j1 kj5 l0 a2 l3 t549 ji22 (!t554))))) else (none)) else (none)) = some r := by first | (rw [hji22] at H; exact H) | (simp only [hji22] at H ⊢; exact H)
            by_cases c23 : 0 ≤ (ji22)
            · rw [if_pos c23] at H
              have c23b0 : decide (0 ≤ (ji22)) = true := decide_eq_true c23
              clear c23
              (first | rw [c23b0] | (simp only [i64_w, i32_w]; rw [c23b0]) | skip)
              by_cases c24 : (ji22) < (l0.length : Int)
              · rw [if_pos c24] at H
                have c24b0 : decide ((ji22) < (l0.length : Int)) = true := decide_eq_true c24
                clear c24
                by_cases c25 : a2.toList = (rdOf ByteArray.empty l0 (ji22)).toList
                · rw [if_pos c25] at H
                  have c25b0 : (a2.toList == (rdOf ByteArray.empty l0 (ji22)).toList) = true := beq_iff_eq.mpr c25
                  have c25b1 : (a2.toList != (rdOf ByteArray.empty l0 (ji22)).toList) = false := bne_eq_false_iff_eq.mpr c25
                  clear c25
                  have H' := Aside0.mk H
                  clear H
                  have p552 : 0 ≤ ((ji22) : Int) := of_decide_eq_true (by first | (with_reducible assumption) | assumption)
                  have q552 : (ji22) < (l0.length : Int) := of_decide_eq_true (by first | (with_reducible assumption) | assumption)
                  obtain ⟨ad552, e552, hx552_0⟩ := Kd.at_string HR0.out (ji22) p552 q552
                  cases e552
                  replace hx552_0 := (HB.out.cell (World.block_lt_of_cell? w _ hx552_0)).trans hx552_0
                  replace p552 := eq_true p552
                  replace q552 := eq_true q552
                  go_wp2
                  first | ((go_meet); (case rel => exact ⟨_, (true), (by first | rfl | (simp; done) | (simp [*]; done)), H', ⟨by have := HJ5.out; first | omega | exact Nat.le_refl _⟩, ⟨by first | exact upB HB.out | exact HB.out⟩⟩)) | ((try simp only [← hji22] at H'); (try simp only [← hji22]); (go_meet); (case rel => exact ⟨_, (true), (by first | rfl | (simp; done) | (simp [*]; done)), H', ⟨by have := HJ5.out; first | omega | exact Nat.le_refl _⟩, ⟨by first | exact upB HB.out | exact HB.out⟩⟩))
                · rw [if_neg c25] at H
                  have c25b0 : (a2.toList == (rdOf ByteArray.empty l0 (ji22)).toList) = false := beq_eq_false_iff_ne.mpr c25
                  have c25b1 : (a2.toList != (rdOf ByteArray.empty l0 (ji22)).toList) = true := bne_iff_ne.mpr c25
                  replace H := Option.bind_eq_some_iff.mp H
                  obtain ⟨t553, A260, H⟩ := H
                  replace H : ((tree_Check.f t553 (l0.length : Int) (ji22) a2 l3).bind fun t554 => (pandectlaw02_TreeBinds.j1 kj5 l0 a2 l3 t549 ji22 (!t554))) = some r := H
                  have A26 := Aside0.mk A260
                  clear A260
                  replace H := Option.bind_eq_some_iff.mp H
                  obtain ⟨t554, A270, H⟩ := H
                  replace H : (pandectlaw02_TreeBinds.j1 kj5 l0 a2 l3 t549 ji22 (!t554)) = some r := H
                  have A27 := Aside0.mk A270
                  clear A270
                  have H' := Aside0.mk H
                  clear H
                  have p552 : 0 ≤ ((ji22) : Int) := of_decide_eq_true (by first | (with_reducible assumption) | assumption)
                  have q552 : (ji22) < (l0.length : Int) := of_decide_eq_true (by first | (with_reducible assumption) | assumption)
                  obtain ⟨ad552, e552, hx552_0⟩ := Kd.at_string HR0.out (ji22) p552 q552
                  cases e552
                  replace hx552_0 := (HB.out.cell (World.block_lt_of_cell? w _ hx552_0)).trans hx552_0
                  replace p552 := eq_true p552
                  replace q552 := eq_true q552
                  go_wp2_with (first | (go_at_call 15; (with_reducible refine (tree_Root.calls kj5 _ _ l0 t553 _ ?side1 ?side2 ?side3 A26.out).mono ?_); (case side1 => exact upC ((Kd.C_below HR0.out HB.out))); (case side2 => exact HC0.out); (case side3 => exact tabs_below HT.out (by first | exact upB HB.out | exact HB.out)); rintro e w28 ⟨rfl, hb⟩; have n0_ := Aside0.mk (below_step (by first | exact upB HB.out | exact HB.out) hb); clear HB; have HB := n0_; clear n0_; (try clear hb); (try clear hb2); (try clear hk); (try clear hi)) | (go_at_call 18; (with_reducible refine (tree_Check.calls t553 (l0.length : Int) ji22 a2 _ _ l3 t554 _ ?side1 ?side2 ?side3 A27.out).mono ?_); (case side1 => exact upC ((Kd.C_below HR3.out HB.out))); (case side2 => exact HC3.out); (case side3 => exact tabs_below HT.out (by first | exact upB HB.out | exact HB.out)); rintro e w29 ⟨rfl, hb⟩; have n0_ := Aside0.mk (below_step (by first | exact upB HB.out | exact HB.out) hb); clear HB; have HB := n0_; clear n0_; (try clear hb); (try clear hb2); (try clear hk); (try clear hi)))
                  first | ((go_meet); (case rel => exact ⟨_, (!t554), (by first | rfl | (simp; done) | (simp [*]; done)), H', ⟨by have := HJ5.out; first | omega | exact Nat.le_refl _⟩, ⟨by first | exact upB HB.out | exact HB.out⟩⟩)) | ((try simp only [← hji22] at H'); (try simp only [← hji22]); (go_meet); (case rel => exact ⟨_, (!t554), (by first | rfl | (simp; done) | (simp [*]; done)), H', ⟨by have := HJ5.out; first | omega | exact Nat.le_refl _⟩, ⟨by first | exact upB HB.out | exact HB.out⟩⟩))
              · rw [if_neg c24] at H
                exact absurd H (by simp)
            · rw [if_neg c23] at H
              exact absurd H (by simp)
          case rest =>
            clear HC21
            try clear c1
            try clear c2
            try clear p2
            try clear c3
            try clear c5
            try clear p5
            try clear q5
            try clear hx5
            try clear p6
            try clear c9
            try clear c10
            try clear c11
            try clear c12
            try clear c12b0
            try clear c12b1
            try clear c19
            try clear c20
            try clear c20b0
            try clear c20b1
            try clear c20b2
            try clear c23
            try clear c23b0
            try clear c24
            try clear c24b0
            try clear c25
            try clear c25b0
            try clear c25b1
            try clear hx552_0
            try clear p2
            try clear p552
            try clear q552
            obtain ⟨kq, x54_20, rfl, HA, HJ20, HB⟩ := hcut
            cases kq with
            | zero => exact absurd HA.out (by simp [pandectlaw02_TreeBinds.j1])
            | succ kj20 =>
              have H := HA.out
              clear HA
              simp only [pandectlaw02_TreeBinds.j1] at H
              by_cases c30 : x54_20 = true
              · subst c30
                have H1 : (some t549) = some r := by rw [if_pos rfl] at H; exact H
                clear H
                have H := H1
                clear H1
                obtain rfl := Option.some.inj H
                go_wp2
                go_ret
                exact ⟨by first | rfl | (simp [errW_none, errW_some] <;> rfl) | (simp [*, errW_none, errW_some] <;> rfl), by first | exact upB HB.out | exact HB.out⟩
              · replace c30 := Bool.eq_false_iff.mpr c30
                subst c30
                have H1 : ((tree_Path.f kj20 l0 (Int.tmod (wrap64 (a1)) (l0.length : Int))).bind fun bt555 => (if bt555.2 = 0 then (pandectlaw02_TreeBinds.j2 kj20 l0 a2 l3 t549 (Int.tmod (wrap64 (a1)) (l0.length : Int)) ((bt555.1.length : Int) != (l3.length : Int))) else (pandectlaw02_TreeBinds.j2 kj20 l0 a2 l3 t549 (Int.tmod (wrap64 (a1)) (l0.length : Int)) true))) = some r := by rw [if_neg (show ¬ (false = true) by decide)] at H; exact H
                clear H
                have H := H1
                clear H1
                replace H := Option.bind_eq_some_iff.mp H
                obtain ⟨⟨t555, t558⟩, A310, H⟩ := H
                replace H : (if t558 = 0 then (pandectlaw02_TreeBinds.j2 kj20 l0 a2 l3 t549 (Int.tmod (wrap64 (a1)) (l0.length : Int)) ((t555.length : Int) != (l3.length : Int))) else (pandectlaw02_TreeBinds.j2 kj20 l0 a2 l3 t549 (Int.tmod (wrap64 (a1)) (l0.length : Int)) true)) = some r := H
                have A31 := Aside0.mk A310
                clear A310
                have HC32 := Aside0.mk H
                clear H
                go_upto_region 8 with (first | ((with_reducible refine gate_callee (f := 11) rfl ?_); refine goesL_ (some 59) rfl rfl Tryd.func11 (by kernel_rfl) rfl #[.slice A0 l0.length c0, .int .i64 (Int.tmod (wrap64 (a1)) (l0.length : Int))] rfl (by (try simp only [List.map_toArray, List.map_cons, List.map_nil]); first | done | rfl | (simp only [List.length_drop, List.length_take]; rfl)) ?_; (with_reducible refine (tree_Path.calls kj20 (fun k_ => k_ < w.heap.size) _ _ l0 (Int.tmod (wrap64 (a1)) (l0.length : Int)) t555 t558 _ ?side1 ?side2 A31.out).mono ?_); (case side1 => exact Kd.V_mk HC0.out (Kd.F_below (Kd.C_F Kd.heap_string HR0.out) (by first | exact upB HB.out | exact HB.out))); (case side2 => exact tabs_below HT.out (by first | exact upB HB.out | exact HB.out)); rintro e w33 ⟨v556, rfl, ho0, hb⟩; refine ⟨_, rfl, ?_⟩; have n0_ := Aside0.mk (Kd.R_lower (Kd.R_mono (ok' := fun k_ => True) ho0 (fun _ hk_ => trivial)) (below_size (by first | exact upB HB.out | exact HB.out))); have n1_ := Aside0.mk (below_step (by first | exact upB HB.out | exact HB.out) hb); clear HB; have HO557 := n0_; have HB := n1_; clear n0_ n1_; (try clear hb); (try clear hb2); (try clear hk); (try clear hi); (try clear ho0)))
                (try simp only [Act.put, List.setIfInBounds_toArray, List.set_cons_zero, List.set_cons_succ])
                go_cut [70] (fun v70 wc => ∃ (kq : Nat) (x70_31 : Bool), v70 = .bool x70_31 ∧ Aside0 (pandectlaw02_TreeBinds.j2 kq l0 a2 l3 t549 (Int.tmod (wrap64 (a1)) (l0.length : Int)) x70_31 = some r) ∧ Aside0 (kq ≤ kj20) ∧ Aside0 (Below w.heap.size w wc))
                case first =>
                  have H := HC32.out
                  clear HC32
                  by_cases c34 : t558 = 0
                  · rw [if_pos c34] at H
                    have c34b0 : (t558 == 0) = true := beq_iff_eq.mpr c34
                    have c34b1 : (t558 != 0) = false := bne_eq_false_iff_eq.mpr c34
                    clear c34
                    (first | rw [c34b0] | (simp only [i64_w, i32_w]; rw [c34b0]) | skip)
                    have H' := Aside0.mk H
                    clear H
                    obtain ⟨Ao35, co35, eo35⟩ := Kd.R_slice HO557.out
                    subst eo35
                    go_wp2
                    go_meet
                    case rel => exact ⟨_, (((t555.length : Int) != (l3.length : Int))), (by first | rfl | (simp; done) | (simp [*]; done)), H', ⟨by have := HJ5.out; have := HJ20.out; first | omega | exact Nat.le_refl _⟩, ⟨by first | exact upB HB.out | exact HB.out⟩⟩
                  · rw [if_neg c34] at H
                    have c34b0 : (t558 == 0) = false := beq_eq_false_iff_ne.mpr c34
                    have c34b1 : (t558 != 0) = true := bne_iff_ne.mpr c34
                    (first | rw [c34b0] | (simp only [i64_w, i32_w]; rw [c34b0]) | skip)
                    have H' := Aside0.mk H
                    clear H
                    go_wp2
                    go_meet
                    case rel => exact ⟨_, (true), (by first | rfl | (simp; done) | (simp [*]; done)), H', ⟨by have := HJ5.out; have := HJ20.out; first | omega | exact Nat.le_refl _⟩, ⟨by first | exact upB HB.out | exact HB.out⟩⟩
                case rest =>
                  clear HC32
                  try clear c1
                  try clear c2
                  try clear p2
                  try clear c3
                  try clear c5
                  try clear p5
                  try clear q5
                  try clear hx5
                  try clear p6
                  try clear c9
                  try clear c10
                  try clear c11
                  try clear c12
                  try clear c12b0
                  try clear c12b1
                  try clear c19
                  try clear c20
                  try clear c20b0
                  try clear c20b1
                  try clear c20b2
                  try clear c23
                  try clear c23b0
                  try clear c24
                  try clear c24b0
                  try clear c25
                  try clear c25b0
                  try clear c25b1
                  try clear c30
                  try clear c34
                  try clear c34b0
                  try clear c34b1
                  try clear hx552_0
                  try clear p2
                  try clear p5
                  try clear p552
                  try clear p6
                  try clear q5
                  try clear q552
                  obtain ⟨kq, x70_31, rfl, HA, HJ31, HB⟩ := hcut
                  cases kq with
                  | zero => exact absurd HA.out (by simp [pandectlaw02_TreeBinds.j2])
                  | succ kj31 =>
                    have H := HA.out
                    clear HA
                    simp only [pandectlaw02_TreeBinds.j2] at H
                    by_cases c36 : x70_31 = true
                    · subst c36
                      have H1 : (some false) = some r := by rw [if_pos rfl] at H; exact H
                      clear H
                      have H := H1
                      clear H1
                      obtain rfl := Option.some.inj H
                      go_wp2
                      go_ret
                      exact ⟨by first | rfl | (simp [errW_none, errW_some] <;> rfl) | (simp [*, errW_none, errW_some] <;> rfl), by first | exact upB HB.out | exact HB.out⟩
                    · replace c36 := Bool.eq_false_iff.mpr c36
                      subst c36
                      have H1 : (if t549 = true then ((pandectref02_Texts.f kj31 l0).bind fun t559 => ((pandectref02_PathTexts.f kj31 (l0.length : Int) (Int.tmod (wrap64 (a1)) (l0.length : Int)) a2 l3).bind fun t562 => (if t559.length + t562.length < 8796093022208 then ((pandectref02_Shown.f kj31 (t559 ++ t562)).bind fun t568 => (some t568)) else (none)))) else (some false)) = some r := by rw [if_neg (show ¬ (false = true) by decide)] at H; exact H
                      clear H
                      have H := H1
                      clear H1
                      by_cases c37 : t549 = true
                      · subst c37
                        have H1 : ((pandectref02_Texts.f kj31 l0).bind fun t559 => ((pandectref02_PathTexts.f kj31 (l0.length : Int) (Int.tmod (wrap64 (a1)) (l0.length : Int)) a2 l3).bind fun t562 => (if t559.length + t562.length < 8796093022208 then ((pandectref02_Shown.f kj31 (t559 ++ t562)).bind fun t568 => (some t568)) else (none)))) = some r := by rw [if_pos rfl] at H; exact H
                        clear H
                        have H := H1
                        clear H1
                        replace H := Option.bind_eq_some_iff.mp H
                        obtain ⟨t559, A380, H⟩ := H
                        replace H : ((pandectref02_PathTexts.f kj31 (l0.length : Int) (Int.tmod (wrap64 (a1)) (l0.length : Int)) a2 l3).bind fun t562 => (if t559.length + t562.length < 8796093022208 then ((pandectref02_Shown.f kj31 (t559 ++ t562)).bind fun t568 => (some t568)) else (none))) = some r := H
                        have A38 := Aside0.mk A380
                        clear A380
                        replace H := Option.bind_eq_some_iff.mp H
                        obtain ⟨t562, A390, H⟩ := H
                        replace H : (if t559.length + t562.length < 8796093022208 then ((pandectref02_Shown.f kj31 (t559 ++ t562)).bind fun t568 => (some t568)) else (none)) = some r := H
                        have A39 := Aside0.mk A390
                        clear A390
                        by_cases c40 : t559.length + t562.length < 8796093022208
                        · rw [if_pos c40] at H
                          have LMc40 := Aside0.mk c40
                          clear c40
                          obtain ⟨y565, hy565⟩ : ∃ y_ : List ByteArray, y_ = (t559 ++ t562) := ⟨_, rfl⟩
                          replace H : ((pandectref02_Shown.f kj31 y565).bind fun t568 => (some t568)) = some r := by first | (rw [hy565]; with_reducible exact H) | (have H2_ := (Option.bind_some _ _).symm.trans H; rw [hy565]; with_reducible exact H2_) | (have H2_ := (Option.bind_some _ _).symm.trans H; with_reducible exact H2_) | with_reducible exact H | (rw [hy565]; exact H) | exact H
                          have Ny565 := Aside0.mk hy565
                          clear hy565
                          replace H := Option.bind_eq_some_iff.mp H
                          obtain ⟨t568, A410, H⟩ := H
                          replace H : (some t568) = some r := H
                          have A41 := Aside0.mk A410
                          clear A410
                          obtain rfl := Option.some.inj H
                          go_wp2_with (first | (go_at_call 23; (with_reducible refine (pandectref02_Texts.calls kj31 _ _ l0 t559 _ ?side1 ?side2 A38.out).mono ?_); (case side1 => exact upC ((Kd.C_below HR0.out HB.out))); (case side2 => exact HC0.out); rintro e w42 ⟨v560, rfl, ho0, hb⟩; have n0_ := Aside0.mk (Kd.R_lower ho0 (below_size (by first | exact upB HB.out | exact HB.out))); have n1_ := Aside0.mk (below_step (by first | exact upB HB.out | exact HB.out) hb); clear HB; have HO561 := n0_; have HB := n1_; clear n0_ n1_; (try clear hb); (try clear hb2); (try clear hk); (try clear hi); (try clear ho0)) | (go_at_call 24; (with_reducible refine (pandectref02_PathTexts.calls kj31 (l0.length : Int) (Int.tmod (wrap64 (a1)) (l0.length : Int)) a2 _ _ l3 t562 _ ?side1 ?side2 A39.out).mono ?_); (case side1 => exact upC ((Kd.C_below HR3.out HB.out))); (case side2 => exact HC3.out); rintro e w43 ⟨v563, rfl, ho0, hb⟩; have n0_ := Aside0.mk (Kd.R_elder' (by exact upR HO561.out) (Kd.R_base ho0) hb); have n1_ := Aside0.mk (Kd.R_lower (Kd.R_new' ho0 (Kd.R_lt (by exact upR HO561.out))) (below_size (by first | exact upB HB.out | exact HB.out))); have n2_ := Aside0.mk (below_step (by first | exact upB HB.out | exact HB.out) hb); clear HO561; clear HB; have HO561 := n0_; have HO564 := n1_; have HB := n2_; clear n0_ n1_ n2_; (try clear hb); (try clear hb2); (try clear hk); (try clear hi); (try clear ho0); obtain ⟨Ao45, co45, eo45⟩ := Kd.R_slice HO564.out; subst eo45) | ((with_reducible refine gate_builtin (b := .append) (xs := #[.tmp 74, .tmp 80]) rfl ?_); (try (refine gate_guard (by rfl) ?_; dsimp only)); at_builtin; refine Kd.R_append_rows Kd.string (w0 := w) w.heap.size rfl (.tmp 74) (.tmp 80) 22 9 (.string ⟨#[]⟩) 16 rfl Tryd.underlying22 info9 rfl (by decide) (by omega) v560 t559 t562 _ _ _ (fun k_ => some k_ ≠ (.slice Ao45 t562.length co45 : Value).ownBlock) (fun _ => False) rfl rfl ?aO ?aR (fun _ _ h => h) (fun _ h => h.elim) ?aF ?aB ?aS ?aL ?_; (case aR => exact upC ((Kd.R_reads' HO564.out).2.2)); (case aB => exact (by first | exact upB HB.out | exact HB.out)); (case aF => exact (fun k_ hk => Kd.fresh' (Kd.R_lt (by exact upR HO564.out)) k_ hk)); (case aO => exact (by (with_reducible repeat (first | apply Kd.R_alloc | apply Kd.R_drewN | apply Kd.R_drew)); exact Kd.R_mono HO561.out (fun _ hk => hk.2))); (case aS => exact (below_size (by first | exact upB HB.out | exact HB.out))); (case aL => have := LMc40.out; omega); intro v566 w44 ho hb hg hat; rw [← Ny565.out] at ho; have n0_ := Aside0.mk (Kd.R_after (ok := (fun _ => True)) (by exact upR HO564.out) hg hat); have n1_ := Aside0.mk (hb); have n2_ := Aside0.mk (ho); clear HO564; clear HB; clear HO561; have HO564 := n0_; have HB := n1_; have HO567 := n2_; clear n0_ n1_ n2_; clear ho hb hg hat; obtain ⟨Ao46, co46, eo46⟩ := Kd.R_slice HO567.out; subst eo46) | (go_at_call 22; (with_reducible refine (pandectref02_Shown.calls kj31 _ _ y565 t568 _ ?side1 ?side2 A41.out).mono ?_); (case side1 => exact upC ((Kd.R_reads' HO567.out).2.2)); (case side2 => exact (Kd.R_reads' HO567.out).2.1); rintro e w47 ⟨rfl, hb⟩; have n0_ := Aside0.mk (Kd.R_below (by exact upR HO564.out) hb); have n1_ := Aside0.mk (Kd.R_below (by exact upR HO567.out) hb); have n2_ := Aside0.mk (below_step (by first | exact upB HB.out | exact HB.out) hb); clear HO564; clear HO567; clear HB; have HO564 := n0_; have HO567 := n1_; have HB := n2_; clear n0_ n1_ n2_; (try clear hb); (try clear hb2); (try clear hk); (try clear hi)))
                          go_ret
                          exact ⟨by first | rfl | (simp [errW_none, errW_some] <;> rfl) | (simp [*, errW_none, errW_some] <;> rfl), by first | exact upB HB.out | exact HB.out⟩
                        · rw [if_neg c40] at H
                          exact absurd H (by simp)
                      · replace c37 := Bool.eq_false_iff.mpr c37
                        subst c37
                        have H1 : (some false) = some r := by rw [if_neg (show ¬ (false = true) by decide)] at H; exact H
                        clear H
                        have H := H1
                        clear H1
                        obtain rfl := Option.some.inj H
                        go_wp2
                        go_ret
                        exact ⟨by first | rfl | (simp [errW_none, errW_some] <;> rfl) | (simp [*, errW_none, errW_some] <;> rfl), by first | exact upB HB.out | exact HB.out⟩

end Go.Proofs.YteofiiggnegnkaaDoor.P
