import Derived.Test.YteofiiggnegnkaaDoorKPx0
import Derived.Test.YteofiiggnegnkaaDoorKPx4
import Derived.Test.YteofiiggnegnkaaDoorKCPx5
import Derived.Test.YteofiiggnegnkaaDoorKD
import Derived.Test.YteofiiggnegnkaaDoorKTb
set_option linter.unusedVariables false
set_option linter.unusedSimpArgs false
-- PRINTED by print.py (a twelfth state) out of the translation. Not trusted: Lean checks it.
namespace Go.Proofs.YteofiiggnegnkaaDoor.P
open Go.RowKit Go.Proofs.YteofiiggnegnkaaDoorW.PrintWords Go.Proofs.YteofiiggnegnkaaDoorW.PrintLast Go.Proofs.YteofiiggnegnkaaDoorW.PrintMore
attribute [local go_sem] max2_int min2_int max_two min_two max_three min_three max_four min_four   -- for this text's walks alone
set_option linter.unusedVariables false
set_option linter.unusedSimpArgs false

/-! ### pandectref02_both: function 47 -/
def pandectref02_both.f : Nat → Int → Int → Bool → ByteArray → List ByteArray → Option (ByteArray × ByteArray)
  | 0, _, _, _, _, _ => none
  | k + 1, a0, a1, a2, a3, l4 => if a1 = a0 then (if a2 = true then (some (a3, a3)) else (if 0 < (l4.length : Int) then (some (rdOf ByteArray.empty l4 0, rdOf ByteArray.empty l4 0)) else (none))) else ((pandectref02_Half.f k a0).bind fun t382 => (if 0 ≤ (wrap64 ((l4.length : Int) - 1)) then (if (wrap64 ((l4.length : Int) - 1)) < (l4.length : Int) then (if (wrap64 ((l4.length : Int) - 1)) ≤ (l4.length : Int) then (if a1 ≤ t382 then ((pandectref02_both.f k t382 a1 a2 a3 (l4.take ((wrap64 ((l4.length : Int) - 1)) : Int).toNat)).bind fun bt385 => ((pandectref02_node.f k bt385.2 (rdOf ByteArray.empty l4 (wrap64 ((l4.length : Int) - 1)))).bind fun t387 => (some (bt385.1, t387)))) else ((pandectref02_both.f k (wrap64 (a0 - t382)) (wrap64 (a1 - t382)) false a3 (l4.take ((wrap64 ((l4.length : Int) - 1)) : Int).toNat)).bind fun bt388 => ((pandectref02_node.f k (rdOf ByteArray.empty l4 (wrap64 ((l4.length : Int) - 1))) bt388.1).bind fun t390 => ((pandectref02_node.f k (rdOf ByteArray.empty l4 (wrap64 ((l4.length : Int) - 1))) bt388.2).bind fun t391 => (some (t390, t391)))))) else (none)) else (none)) else (none)))
set_option maxHeartbeats 8000000 in
set_option maxRecDepth 100000 in
theorem pandectref02_both.calls (k : Nat) : ∀ (a0 : Int) (a1 : Int) (a2 : Bool) (a3 : ByteArray) (A4 : Option Addr) (c4 : Nat) (l4 : List ByteArray) (r1 : ByteArray) (r2 : ByteArray) (w : World) (hr4 : Kd.C Kd.string w A4 l4.length l4) (hc4 : l4.length ≤ c4) (h : pandectref02_both.f k a0 a1 a2 a3 l4 = some (r1, r2)),
    Calls Tryd.prog 47 #[.int .i64 a0, .int .i64 a1, .bool a2, .string a3, .slice A4 l4.length c4] w fun e w' => e = .returned (.tuple #[.string r1, .string r2]) ∧ Below w.heap.size w w' := by
  induction k using Nat.strongRecOn with
  | _ k ih =>
  intro a0 a1 a2 a3 A4 c4 l4 r1 r2 w hr4 hc4 h
  cases k with
  | zero => exact absurd h (by simp [pandectref02_both.f])
  | succ k =>
  simp only [pandectref02_both.f] at h
  have HR4 := Aside0.mk hr4
  have HC4 := Aside0.mk hc4
  clear hr4 hc4
  have HB := Aside0.mk (Below.refl w.heap.size w)
  have H : (if a1 = a0 then (if a2 = true then (some (a3, a3)) else (if 0 < (l4.length : Int) then (some (rdOf ByteArray.empty l4 0, rdOf ByteArray.empty l4 0)) else (none))) else ((pandectref02_Half.f k a0).bind fun t382 => (if 0 ≤ (wrap64 ((l4.length : Int) - 1)) then (if (wrap64 ((l4.length : Int) - 1)) < (l4.length : Int) then (if (wrap64 ((l4.length : Int) - 1)) ≤ (l4.length : Int) then (if a1 ≤ t382 then ((pandectref02_both.f k t382 a1 a2 a3 (l4.take ((wrap64 ((l4.length : Int) - 1)) : Int).toNat)).bind fun bt385 => ((pandectref02_node.f k bt385.2 (rdOf ByteArray.empty l4 (wrap64 ((l4.length : Int) - 1)))).bind fun t387 => (some (bt385.1, t387)))) else ((pandectref02_both.f k (wrap64 (a0 - t382)) (wrap64 (a1 - t382)) false a3 (l4.take ((wrap64 ((l4.length : Int) - 1)) : Int).toNat)).bind fun bt388 => ((pandectref02_node.f k (rdOf ByteArray.empty l4 (wrap64 ((l4.length : Int) - 1))) bt388.1).bind fun t390 => ((pandectref02_node.f k (rdOf ByteArray.empty l4 (wrap64 ((l4.length : Int) - 1))) bt388.2).bind fun t391 => (some (t390, t391)))))) else (none)) else (none)) else (none)))) = some (r1, r2) := h
  clear h
  by_cases c6 : a1 = a0
  · rw [if_pos c6] at H
    have c6b0 : (a1 == a0) = true := beq_iff_eq.mpr c6
    have c6b1 : (a1 != a0) = false := bne_eq_false_iff_eq.mpr c6
    clear c6
    by_cases c7 : a2 = true
    · subst c7
      have H1 : (some (a3, a3)) = some (r1, r2) := by rw [if_pos rfl] at H; exact H
      clear H
      have H := H1
      clear H1
      simp only [Option.some.injEq, Prod.mk.injEq] at H
      obtain ⟨rfl, rfl⟩ := H
      go_enter Tryd.func47, Tryd.ntmps47
      go_wp2
      repeat (go_quiet (fail); try go_wp2)
      go_ret2
      exact ⟨by first | rfl | (simp [errW_none, errW_some] <;> rfl) | (simp [*, errW_none, errW_some] <;> rfl), by first | exact upB HB.out | exact HB.out⟩
    · replace c7 := Bool.eq_false_iff.mpr c7
      subst c7
      have H1 : (if 0 < (l4.length : Int) then (some (rdOf ByteArray.empty l4 0, rdOf ByteArray.empty l4 0)) else (none)) = some (r1, r2) := by rw [if_neg (show ¬ (false = true) by decide)] at H; exact H
      clear H
      have H := H1
      clear H1
      by_cases c8 : 0 < (l4.length : Int)
      · rw [if_pos c8] at H
        have c8b0 : decide (0 < (l4.length : Int)) = true := decide_eq_true c8
        have c8b1 : decide (0 < l4.length) = true := decide_eq_true (by omega)
        clear c8
        simp only [Option.some.injEq, Prod.mk.injEq] at H
        obtain ⟨rfl, rfl⟩ := H
        have p380 : 0 ≤ (0 : Int) := (by omega)
        have q380 : 0 < (l4.length : Int) := of_decide_eq_true (by first | (with_reducible assumption) | assumption)
        obtain ⟨ad380, e380, hx380_0⟩ := Kd.at_string HR4.out 0 p380 q380
        cases e380
        have qi380 : (0 < l4.length) = True := eq_true (by omega)
        (try rw [show ((0 : Int)).toNat = 0 from rfl] at hx380_0)
        (try rw [Addr.add_zero'] at hx380_0)
        replace p380 := eq_true p380
        replace q380 := eq_true q380
        have p381 : 0 ≤ (0 : Int) := (by omega)
        have q381 : 0 < (l4.length : Int) := of_decide_eq_true (by first | (with_reducible assumption) | assumption)
        obtain ⟨ad381, e381, hx381_0⟩ := Kd.at_string HR4.out 0 p381 q381
        obtain rfl : ad380 = ad381 := (by injection e381)
        have qi381 : (0 < l4.length) = True := eq_true (by omega)
        (try rw [show ((0 : Int)).toNat = 0 from rfl] at hx381_0)
        (try rw [Addr.add_zero'] at hx381_0)
        replace p381 := eq_true p381
        replace q381 := eq_true q381
        go_enter Tryd.func47, Tryd.ntmps47
        go_wp2
        repeat (go_quiet (fail); try go_wp2)
        go_ret2
        exact ⟨by first | rfl | (simp [errW_none, errW_some] <;> rfl) | (simp [*, errW_none, errW_some] <;> rfl), by first | exact upB HB.out | exact HB.out⟩
      · rw [if_neg c8] at H
        exact absurd H (by simp)
  · rw [if_neg c6] at H
    have c6b0 : (a1 == a0) = false := beq_eq_false_iff_ne.mpr c6
    have c6b1 : (a1 != a0) = true := bne_iff_ne.mpr c6
    replace H := Option.bind_eq_some_iff.mp H
    obtain ⟨t382, A90, H⟩ := H
    replace H : (if 0 ≤ (wrap64 ((l4.length : Int) - 1)) then (if (wrap64 ((l4.length : Int) - 1)) < (l4.length : Int) then (if (wrap64 ((l4.length : Int) - 1)) ≤ (l4.length : Int) then (if a1 ≤ t382 then ((pandectref02_both.f k t382 a1 a2 a3 (l4.take ((wrap64 ((l4.length : Int) - 1)) : Int).toNat)).bind fun bt385 => ((pandectref02_node.f k bt385.2 (rdOf ByteArray.empty l4 (wrap64 ((l4.length : Int) - 1)))).bind fun t387 => (some (bt385.1, t387)))) else ((pandectref02_both.f k (wrap64 (a0 - t382)) (wrap64 (a1 - t382)) false a3 (l4.take ((wrap64 ((l4.length : Int) - 1)) : Int).toNat)).bind fun bt388 => ((pandectref02_node.f k (rdOf ByteArray.empty l4 (wrap64 ((l4.length : Int) - 1))) bt388.1).bind fun t390 => ((pandectref02_node.f k (rdOf ByteArray.empty l4 (wrap64 ((l4.length : Int) - 1))) bt388.2).bind fun t391 => (some (t390, t391)))))) else (none)) else (none)) else (none)) = some (r1, r2) := H
    have A9 := Aside0.mk A90
    clear A90
    obtain ⟨ji10, hji10⟩ : ∃ j_ : Int, (wrap64 ((l4.length : Int) - 1)) = j_ := ⟨_, rfl⟩
    replace H : (if 0 ≤ (ji10) then (if (ji10) < (l4.length : Int) then (if (ji10) ≤ (l4.length : Int) then (if a1 ≤ t382 then ((pandectref02_both.f k t382 a1 a2 a3 (l4.take ((ji10) : Int).toNat)).bind fun bt385 => ((pandectref02_node.f k bt385.2 (rdOf ByteArray.empty l4 (ji10))).bind fun t387 => (some (bt385.1, t387)))) else ((pandectref02_both.f k (wrap64 (a0 - t382)) (wrap64 (a1 - t382)) false a3 (l4.take ((ji10) : Int).toNat)).bind fun bt388 => ((pandectref02_node.f k (rdOf ByteArray.empty l4 (ji10)) bt388.1).bind fun t390 => ((pandectref02_node.f k (rdOf ByteArray.empty l4 (ji10)) bt388.2).bind fun t391 => (some (t390, t391)))))) else (none)) else (none)) else (none)) = some (r1, r2) := by first | (rw [hji10] at H; exact H) | (simp only [hji10] at H ⊢; exact H)
    (try rw [hji10] at A9)
    have hji10w : (IntKind.i64.wrap ((l4.length : Int) - 1)) = ji10 := (i64_w _).trans hji10
    by_cases c11 : 0 ≤ (ji10)
    · rw [if_pos c11] at H
      have c11b0 : decide (0 ≤ (ji10)) = true := decide_eq_true c11
      clear c11
      by_cases c12 : (ji10) < (l4.length : Int)
      · rw [if_pos c12] at H
        have c12b0 : decide ((ji10) < (l4.length : Int)) = true := decide_eq_true c12
        clear c12
        have c13b0 := eq_true (of_decide_eq_true (by first | (with_reducible assumption) | assumption) : 0 ≤ (ji10))
        by_cases c14 : (ji10) ≤ (l4.length : Int)
        · rw [if_pos c14] at H
          have c14b0 := eq_true c14
          have c14b1 : decide ((ji10) ≤ (l4.length : Int)) = true := decide_eq_true c14
          clear c14
          by_cases c15 : a1 ≤ t382
          · rw [if_pos c15] at H
            have c15b0 : decide (a1 ≤ t382) = true := decide_eq_true c15
            clear c15
            replace H := Option.bind_eq_some_iff.mp H
            obtain ⟨⟨t385, t386⟩, A160, H⟩ := H
            replace H : ((pandectref02_node.f k t386 (rdOf ByteArray.empty l4 (ji10))).bind fun t387 => (some (t385, t387))) = some (r1, r2) := H
            have A16 := Aside0.mk A160
            clear A160
            replace H := Option.bind_eq_some_iff.mp H
            obtain ⟨t387, A170, H⟩ := H
            replace H : (some (t385, t387)) = some (r1, r2) := H
            have A17 := Aside0.mk A170
            clear A170
            simp only [Option.some.injEq, Prod.mk.injEq] at H
            obtain ⟨rfl, rfl⟩ := H
            go_enter Tryd.func47, Tryd.ntmps47
            go_wp2_with (first | (go_at_call 35; (with_reducible refine (pandectref02_Half.calls k a0 t382 _ A9.out).mono ?_); rintro e w' ⟨rfl, ⟨nd, rfl⟩⟩; (try first | exact ⟨rfl, _, World.drewN_drewN _ _ _⟩ | exact ⟨rfl, _, Eq.trans (World.drewN_drewN _ _ _) (congrArg (World.drewN _) (Nat.add_assoc _ _ _))⟩); have p383 : 0 ≤ ((ji10) : Int) := of_decide_eq_true (by first | (with_reducible assumption) | assumption); have q383 : (ji10) < (l4.length : Int) := of_decide_eq_true (by first | (with_reducible assumption) | assumption); obtain ⟨ad383, e383, hx383_0⟩ := Kd.at_string HR4.out (ji10) p383 q383; cases e383; replace p383 := eq_true p383; replace q383 := eq_true q383; obtain ⟨i018, hi018, _, hsz18, _⟩ := info_parts info9; obtain ⟨hcut18, hA18, hC18⟩ := print_take_of (P := Tryd.prog) Value.string (⟨#[]⟩ : ByteArray) 22 9 .i64 Tryd.underlying22 hi018 hsz18 (some ad383) c4 l4 (ji10) (of_decide_eq_true (by first | (with_reducible assumption) | assumption)) (of_decide_eq_true (by first | (with_reducible assumption) | assumption)) HC4.out; have HR384 := Aside0.mk (Kd.C_of_reads (h1 := fun _ => rfl) (hA18 _ (Kd.reads_of_C HR4.out))); have HC384 := Aside0.mk hC18; clear hA18 hC18 hi018 hsz18) | (go_at_call 47; refine calls_of_args (args' := #[.int .i64 t382, .int .i64 a1, .bool a2, .string a3, .slice (some ad383) (l4.take ((ji10) : Int).toNat).length c4]) (by first | (rw [show (l4.take ((ji10) : Int).toNat).length = (ji10).toNat from (by rw [List.length_take]; have h_ : ((ji10) : Int) ≤ (l4.length : Int) := of_decide_eq_true (by first | (with_reducible assumption) | assumption); omega)] <;> rfl) | (simp only [hji10]; rfl) | rfl | (simp only [List.length_drop, List.length_take]; rfl)) ?_; (with_reducible refine (ih k (by omega) t382 a1 a2 a3 _ _ (l4.take ((ji10) : Int).toNat) t385 t386 _ ?side1 ?side2 A16.out).mono ?_); (case side1 => exact upC (HR384.out)); (case side2 => exact HC384.out); rintro e w19 ⟨rfl, hb⟩; have n0_ := Aside0.mk (below_step (by first | exact upB HB.out | exact HB.out) hb); clear HB; have HB := n0_; clear n0_; (try clear hb); (try clear hb2); (try clear hk); (try clear hi)) | (go_at_call 36; (with_reducible refine (pandectref02_node.calls k t386 (rdOf ByteArray.empty l4 (ji10)) t387 _ A17.out).mono ?_); rintro e w20 ⟨rfl, hb⟩; have n0_ := Aside0.mk (below_step (by first | exact upB HB.out | exact HB.out) hb); clear HB; have HB := n0_; clear n0_; (try clear hb); (try clear hb2); (try clear hk); (try clear hi)))
            repeat (go_quiet (first | (go_at_call 35; (with_reducible refine (pandectref02_Half.calls k a0 t382 _ A9.out).mono ?_); rintro e w' ⟨rfl, ⟨nd, rfl⟩⟩; (try first | exact ⟨rfl, _, World.drewN_drewN _ _ _⟩ | exact ⟨rfl, _, Eq.trans (World.drewN_drewN _ _ _) (congrArg (World.drewN _) (Nat.add_assoc _ _ _))⟩); have p383 : 0 ≤ ((ji10) : Int) := of_decide_eq_true (by first | (with_reducible assumption) | assumption); have q383 : (ji10) < (l4.length : Int) := of_decide_eq_true (by first | (with_reducible assumption) | assumption); obtain ⟨ad383, e383, hx383_0⟩ := Kd.at_string HR4.out (ji10) p383 q383; cases e383; replace p383 := eq_true p383; replace q383 := eq_true q383; obtain ⟨i018, hi018, _, hsz18, _⟩ := info_parts info9; obtain ⟨hcut18, hA18, hC18⟩ := print_take_of (P := Tryd.prog) Value.string (⟨#[]⟩ : ByteArray) 22 9 .i64 Tryd.underlying22 hi018 hsz18 (some ad383) c4 l4 (ji10) (of_decide_eq_true (by first | (with_reducible assumption) | assumption)) (of_decide_eq_true (by first | (with_reducible assumption) | assumption)) HC4.out; have HR384 := Aside0.mk (Kd.C_of_reads (h1 := fun _ => rfl) (hA18 _ (Kd.reads_of_C HR4.out))); have HC384 := Aside0.mk hC18; clear hA18 hC18 hi018 hsz18) | (go_at_call 47; refine calls_of_args (args' := #[.int .i64 t382, .int .i64 a1, .bool a2, .string a3, .slice (some ad383) (l4.take ((ji10) : Int).toNat).length c4]) (by first | (rw [show (l4.take ((ji10) : Int).toNat).length = (ji10).toNat from (by rw [List.length_take]; have h_ : ((ji10) : Int) ≤ (l4.length : Int) := of_decide_eq_true (by first | (with_reducible assumption) | assumption); omega)] <;> rfl) | (simp only [hji10]; rfl) | rfl | (simp only [List.length_drop, List.length_take]; rfl)) ?_; (with_reducible refine (ih k (by omega) t382 a1 a2 a3 _ _ (l4.take ((ji10) : Int).toNat) t385 t386 _ ?side1 ?side2 A16.out).mono ?_); (case side1 => exact upC (HR384.out)); (case side2 => exact HC384.out); rintro e w19 ⟨rfl, hb⟩; have n0_ := Aside0.mk (below_step (by first | exact upB HB.out | exact HB.out) hb); clear HB; have HB := n0_; clear n0_; (try clear hb); (try clear hb2); (try clear hk); (try clear hi)) | (go_at_call 36; (with_reducible refine (pandectref02_node.calls k t386 (rdOf ByteArray.empty l4 (ji10)) t387 _ A17.out).mono ?_); rintro e w20 ⟨rfl, hb⟩; have n0_ := Aside0.mk (below_step (by first | exact upB HB.out | exact HB.out) hb); clear HB; have HB := n0_; clear n0_; (try clear hb); (try clear hb2); (try clear hk); (try clear hi))); try go_wp2_with (first | (go_at_call 35; (with_reducible refine (pandectref02_Half.calls k a0 t382 _ A9.out).mono ?_); rintro e w' ⟨rfl, ⟨nd, rfl⟩⟩; (try first | exact ⟨rfl, _, World.drewN_drewN _ _ _⟩ | exact ⟨rfl, _, Eq.trans (World.drewN_drewN _ _ _) (congrArg (World.drewN _) (Nat.add_assoc _ _ _))⟩); have p383 : 0 ≤ ((ji10) : Int) := of_decide_eq_true (by first | (with_reducible assumption) | assumption); have q383 : (ji10) < (l4.length : Int) := of_decide_eq_true (by first | (with_reducible assumption) | assumption); obtain ⟨ad383, e383, hx383_0⟩ := Kd.at_string HR4.out (ji10) p383 q383; cases e383; replace p383 := eq_true p383; replace q383 := eq_true q383; obtain ⟨i018, hi018, _, hsz18, _⟩ := info_parts info9; obtain ⟨hcut18, hA18, hC18⟩ := print_take_of (P := Tryd.prog) Value.string (⟨#[]⟩ : ByteArray) 22 9 .i64 Tryd.underlying22 hi018 hsz18 (some ad383) c4 l4 (ji10) (of_decide_eq_true (by first | (with_reducible assumption) | assumption)) (of_decide_eq_true (by first | (with_reducible assumption) | assumption)) HC4.out; have HR384 := Aside0.mk (Kd.C_of_reads (h1 := fun _ => rfl) (hA18 _ (Kd.reads_of_C HR4.out))); have HC384 := Aside0.mk hC18; clear hA18 hC18 hi018 hsz18) | (go_at_call 47; refine calls_of_args (args' := #[.int .i64 t382, .int .i64 a1, .bool a2, .string a3, .slice (some ad383) (l4.take ((ji10) : Int).toNat).length c4]) (by first | (rw [show (l4.take ((ji10) : Int).toNat).length = (ji10).toNat from (by rw [List.length_take]; have h_ : ((ji10) : Int) ≤ (l4.length : Int) := of_decide_eq_true (by first | (with_reducible assumption) | assumption); omega)] <;> rfl) | (simp only [hji10]; rfl) | rfl | (simp only [List.length_drop, List.length_take]; rfl)) ?_; (with_reducible refine (ih k (by omega) t382 a1 a2 a3 _ _ (l4.take ((ji10) : Int).toNat) t385 t386 _ ?side1 ?side2 A16.out).mono ?_); (case side1 => exact upC (HR384.out)); (case side2 => exact HC384.out); rintro e w19 ⟨rfl, hb⟩; have n0_ := Aside0.mk (below_step (by first | exact upB HB.out | exact HB.out) hb); clear HB; have HB := n0_; clear n0_; (try clear hb); (try clear hb2); (try clear hk); (try clear hi)) | (go_at_call 36; (with_reducible refine (pandectref02_node.calls k t386 (rdOf ByteArray.empty l4 (ji10)) t387 _ A17.out).mono ?_); rintro e w20 ⟨rfl, hb⟩; have n0_ := Aside0.mk (below_step (by first | exact upB HB.out | exact HB.out) hb); clear HB; have HB := n0_; clear n0_; (try clear hb); (try clear hb2); (try clear hk); (try clear hi))))
            go_ret2
            exact ⟨by first | rfl | (simp [errW_none, errW_some] <;> rfl) | (simp only [← hji10]; first | rfl | (simp [errW_none, errW_some] <;> rfl)) | (simp [*, errW_none, errW_some] <;> rfl), by first | exact upB HB.out | exact HB.out⟩
          · rw [if_neg c15] at H
            have c15b0 : decide (a1 ≤ t382) = false := decide_eq_false c15
            clear c15
            replace H := Option.bind_eq_some_iff.mp H
            obtain ⟨⟨t388, t389⟩, A210, H⟩ := H
            replace H : ((pandectref02_node.f k (rdOf ByteArray.empty l4 (ji10)) t388).bind fun t390 => ((pandectref02_node.f k (rdOf ByteArray.empty l4 (ji10)) t389).bind fun t391 => (some (t390, t391)))) = some (r1, r2) := H
            have A21 := Aside0.mk A210
            clear A210
            replace H := Option.bind_eq_some_iff.mp H
            obtain ⟨t390, A220, H⟩ := H
            replace H : ((pandectref02_node.f k (rdOf ByteArray.empty l4 (ji10)) t389).bind fun t391 => (some (t390, t391))) = some (r1, r2) := H
            have A22 := Aside0.mk A220
            clear A220
            replace H := Option.bind_eq_some_iff.mp H
            obtain ⟨t391, A230, H⟩ := H
            replace H : (some (t390, t391)) = some (r1, r2) := H
            have A23 := Aside0.mk A230
            clear A230
            simp only [Option.some.injEq, Prod.mk.injEq] at H
            obtain ⟨rfl, rfl⟩ := H
            go_enter Tryd.func47, Tryd.ntmps47
            have tk28_ : True := trivial
            have tk29_ : True := trivial
            go_wp2_with (first | (go_at_call 35; (with_reducible refine (pandectref02_Half.calls k a0 t382 _ A9.out).mono ?_); rintro e w' ⟨rfl, ⟨nd, rfl⟩⟩; (try first | exact ⟨rfl, _, World.drewN_drewN _ _ _⟩ | exact ⟨rfl, _, Eq.trans (World.drewN_drewN _ _ _) (congrArg (World.drewN _) (Nat.add_assoc _ _ _))⟩); have p383 : 0 ≤ ((ji10) : Int) := of_decide_eq_true (by first | (with_reducible assumption) | assumption); have q383 : (ji10) < (l4.length : Int) := of_decide_eq_true (by first | (with_reducible assumption) | assumption); obtain ⟨ad383, e383, hx383_0⟩ := Kd.at_string HR4.out (ji10) p383 q383; cases e383; replace p383 := eq_true p383; replace q383 := eq_true q383; (try clear hcut18); obtain ⟨i024, hi024, _, hsz24, _⟩ := info_parts info9; obtain ⟨hcut24, hA24, hC24⟩ := print_take_of (P := Tryd.prog) Value.string (⟨#[]⟩ : ByteArray) 22 9 .i64 Tryd.underlying22 hi024 hsz24 (some ad383) c4 l4 (ji10) (of_decide_eq_true (by first | (with_reducible assumption) | assumption)) (of_decide_eq_true (by first | (with_reducible assumption) | assumption)) HC4.out; have HR384 := Aside0.mk (Kd.C_of_reads (h1 := fun _ => rfl) (hA24 _ (Kd.reads_of_C HR4.out))); have HC384 := Aside0.mk hC24; clear hA24 hC24 hi024 hsz24) | (go_at_call 47; refine calls_of_args (args' := #[.int .i64 (wrap64 (a0 - t382)), .int .i64 (wrap64 (a1 - t382)), .bool false, .string a3, .slice (some ad383) (l4.take ((ji10) : Int).toNat).length c4]) (by first | (rw [show (l4.take ((ji10) : Int).toNat).length = (ji10).toNat from (by rw [List.length_take]; have h_ : ((ji10) : Int) ≤ (l4.length : Int) := of_decide_eq_true (by first | (with_reducible assumption) | assumption); omega)] <;> rfl) | (simp only [hji10]; rfl) | rfl | (simp only [List.length_drop, List.length_take]; rfl)) ?_; (with_reducible refine (ih k (by omega) (wrap64 (a0 - t382)) (wrap64 (a1 - t382)) false a3 _ _ (l4.take ((ji10) : Int).toNat) t388 t389 _ ?side1 ?side2 A21.out).mono ?_); (case side1 => exact upC (HR384.out)); (case side2 => exact HC384.out); rintro e w25 ⟨rfl, hb⟩; have n0_ := Aside0.mk (below_step (by first | exact upB HB.out | exact HB.out) hb); clear HB; have HB := n0_; clear n0_; (try clear hb); (try clear hb2); (try clear hk); (try clear hi)) | (go_at_call 36; clear tk28_; (with_reducible refine (pandectref02_node.calls k (rdOf ByteArray.empty l4 (ji10)) t388 t390 _ A22.out).mono ?_); rintro e w26 ⟨rfl, hb⟩; have n0_ := Aside0.mk (below_step (by first | exact upB HB.out | exact HB.out) hb); clear HB; have HB := n0_; clear n0_; (try clear hb); (try clear hb2); (try clear hk); (try clear hi)) | (go_at_call 36; clear tk29_; (with_reducible refine (pandectref02_node.calls k (rdOf ByteArray.empty l4 (ji10)) t389 t391 _ A23.out).mono ?_); rintro e w27 ⟨rfl, hb⟩; have n0_ := Aside0.mk (below_step (by first | exact upB HB.out | exact HB.out) hb); clear HB; have HB := n0_; clear n0_; (try clear hb); (try clear hb2); (try clear hk); (try clear hi)))
            repeat (go_quiet (first | (go_at_call 35; (with_reducible refine (pandectref02_Half.calls k a0 t382 _ A9.out).mono ?_); rintro e w' ⟨rfl, ⟨nd, rfl⟩⟩; (try first | exact ⟨rfl, _, World.drewN_drewN _ _ _⟩ | exact ⟨rfl, _, Eq.trans (World.drewN_drewN _ _ _) (congrArg (World.drewN _) (Nat.add_assoc _ _ _))⟩); have p383 : 0 ≤ ((ji10) : Int) := of_decide_eq_true (by first | (with_reducible assumption) | assumption); have q383 : (ji10) < (l4.length : Int) := of_decide_eq_true (by first | (with_reducible assumption) | assumption); obtain ⟨ad383, e383, hx383_0⟩ := Kd.at_string HR4.out (ji10) p383 q383; cases e383; replace p383 := eq_true p383; replace q383 := eq_true q383; (try clear hcut18); obtain ⟨i024, hi024, _, hsz24, _⟩ := info_parts info9; obtain ⟨hcut24, hA24, hC24⟩ := print_take_of (P := Tryd.prog) Value.string (⟨#[]⟩ : ByteArray) 22 9 .i64 Tryd.underlying22 hi024 hsz24 (some ad383) c4 l4 (ji10) (of_decide_eq_true (by first | (with_reducible assumption) | assumption)) (of_decide_eq_true (by first | (with_reducible assumption) | assumption)) HC4.out; have HR384 := Aside0.mk (Kd.C_of_reads (h1 := fun _ => rfl) (hA24 _ (Kd.reads_of_C HR4.out))); have HC384 := Aside0.mk hC24; clear hA24 hC24 hi024 hsz24) | (go_at_call 47; refine calls_of_args (args' := #[.int .i64 (wrap64 (a0 - t382)), .int .i64 (wrap64 (a1 - t382)), .bool false, .string a3, .slice (some ad383) (l4.take ((ji10) : Int).toNat).length c4]) (by first | (rw [show (l4.take ((ji10) : Int).toNat).length = (ji10).toNat from (by rw [List.length_take]; have h_ : ((ji10) : Int) ≤ (l4.length : Int) := of_decide_eq_true (by first | (with_reducible assumption) | assumption); omega)] <;> rfl) | (simp only [hji10]; rfl) | rfl | (simp only [List.length_drop, List.length_take]; rfl)) ?_; (with_reducible refine (ih k (by omega) (wrap64 (a0 - t382)) (wrap64 (a1 - t382)) false a3 _ _ (l4.take ((ji10) : Int).toNat) t388 t389 _ ?side1 ?side2 A21.out).mono ?_); (case side1 => exact upC (HR384.out)); (case side2 => exact HC384.out); rintro e w25 ⟨rfl, hb⟩; have n0_ := Aside0.mk (below_step (by first | exact upB HB.out | exact HB.out) hb); clear HB; have HB := n0_; clear n0_; (try clear hb); (try clear hb2); (try clear hk); (try clear hi)) | (go_at_call 36; clear tk28_; (with_reducible refine (pandectref02_node.calls k (rdOf ByteArray.empty l4 (ji10)) t388 t390 _ A22.out).mono ?_); rintro e w26 ⟨rfl, hb⟩; have n0_ := Aside0.mk (below_step (by first | exact upB HB.out | exact HB.out) hb); clear HB; have HB := n0_; clear n0_; (try clear hb); (try clear hb2); (try clear hk); (try clear hi)) | (go_at_call 36; clear tk29_; (with_reducible refine (pandectref02_node.calls k (rdOf ByteArray.empty l4 (ji10)) t389 t391 _ A23.out).mono ?_); rintro e w27 ⟨rfl, hb⟩; have n0_ := Aside0.mk (below_step (by first | exact upB HB.out | exact HB.out) hb); clear HB; have HB := n0_; clear n0_; (try clear hb); (try clear hb2); (try clear hk); (try clear hi))); try go_wp2_with (first | (go_at_call 35; (with_reducible refine (pandectref02_Half.calls k a0 t382 _ A9.out).mono ?_); rintro e w' ⟨rfl, ⟨nd, rfl⟩⟩; (try first | exact ⟨rfl, _, World.drewN_drewN _ _ _⟩ | exact ⟨rfl, _, Eq.trans (World.drewN_drewN _ _ _) (congrArg (World.drewN _) (Nat.add_assoc _ _ _))⟩); have p383 : 0 ≤ ((ji10) : Int) := of_decide_eq_true (by first | (with_reducible assumption) | assumption); have q383 : (ji10) < (l4.length : Int) := of_decide_eq_true (by first | (with_reducible assumption) | assumption); obtain ⟨ad383, e383, hx383_0⟩ := Kd.at_string HR4.out (ji10) p383 q383; cases e383; replace p383 := eq_true p383; replace q383 := eq_true q383; (try clear hcut18); obtain ⟨i024, hi024, _, hsz24, _⟩ := info_parts info9; obtain ⟨hcut24, hA24, hC24⟩ := print_take_of (P := Tryd.prog) Value.string (⟨#[]⟩ : ByteArray) 22 9 .i64 Tryd.underlying22 hi024 hsz24 (some ad383) c4 l4 (ji10) (of_decide_eq_true (by first | (with_reducible assumption) | assumption)) (of_decide_eq_true (by first | (with_reducible assumption) | assumption)) HC4.out; have HR384 := Aside0.mk (Kd.C_of_reads (h1 := fun _ => rfl) (hA24 _ (Kd.reads_of_C HR4.out))); have HC384 := Aside0.mk hC24; clear hA24 hC24 hi024 hsz24) | (go_at_call 47; refine calls_of_args (args' := #[.int .i64 (wrap64 (a0 - t382)), .int .i64 (wrap64 (a1 - t382)), .bool false, .string a3, .slice (some ad383) (l4.take ((ji10) : Int).toNat).length c4]) (by first | (rw [show (l4.take ((ji10) : Int).toNat).length = (ji10).toNat from (by rw [List.length_take]; have h_ : ((ji10) : Int) ≤ (l4.length : Int) := of_decide_eq_true (by first | (with_reducible assumption) | assumption); omega)] <;> rfl) | (simp only [hji10]; rfl) | rfl | (simp only [List.length_drop, List.length_take]; rfl)) ?_; (with_reducible refine (ih k (by omega) (wrap64 (a0 - t382)) (wrap64 (a1 - t382)) false a3 _ _ (l4.take ((ji10) : Int).toNat) t388 t389 _ ?side1 ?side2 A21.out).mono ?_); (case side1 => exact upC (HR384.out)); (case side2 => exact HC384.out); rintro e w25 ⟨rfl, hb⟩; have n0_ := Aside0.mk (below_step (by first | exact upB HB.out | exact HB.out) hb); clear HB; have HB := n0_; clear n0_; (try clear hb); (try clear hb2); (try clear hk); (try clear hi)) | (go_at_call 36; clear tk28_; (with_reducible refine (pandectref02_node.calls k (rdOf ByteArray.empty l4 (ji10)) t388 t390 _ A22.out).mono ?_); rintro e w26 ⟨rfl, hb⟩; have n0_ := Aside0.mk (below_step (by first | exact upB HB.out | exact HB.out) hb); clear HB; have HB := n0_; clear n0_; (try clear hb); (try clear hb2); (try clear hk); (try clear hi)) | (go_at_call 36; clear tk29_; (with_reducible refine (pandectref02_node.calls k (rdOf ByteArray.empty l4 (ji10)) t389 t391 _ A23.out).mono ?_); rintro e w27 ⟨rfl, hb⟩; have n0_ := Aside0.mk (below_step (by first | exact upB HB.out | exact HB.out) hb); clear HB; have HB := n0_; clear n0_; (try clear hb); (try clear hb2); (try clear hk); (try clear hi))))
            go_ret2
            exact ⟨by first | rfl | (simp [errW_none, errW_some] <;> rfl) | (simp only [← hji10]; first | rfl | (simp [errW_none, errW_some] <;> rfl)) | (simp [*, errW_none, errW_some] <;> rfl), by first | exact upB HB.out | exact HB.out⟩
        · rw [if_neg c14] at H
          exact absurd H (by simp)
      · rw [if_neg c12] at H
        exact absurd H (by simp)
    · rw [if_neg c11] at H
      exact absurd H (by simp)

/-! ### pandectref02_Extends: function 21 -/
end Go.Proofs.YteofiiggnegnkaaDoor.P
