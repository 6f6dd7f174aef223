import Derived.Test.YteofiiggnegnkaaDoorKPx0
import Derived.Test.YteofiiggnegnkaaDoorKPx4
import Derived.Test.YteofiiggnegnkaaDoorKMPx5
import Derived.Test.YteofiiggnegnkaaDoorKMPx7
import Derived.Test.YteofiiggnegnkaaDoorKD
import Derived.Test.YteofiiggnegnkaaDoorKTb
set_option linter.unusedVariables false
set_option linter.unusedSimpArgs false
-- PRINTED by print.py (a twelfth state) out of the translation. Not trusted: Lean checks it.
namespace Go.Proofs.YteofiiggnegnkaaDoor.P
open Go.RowKit Go.Proofs.YteofiiggnegnkaaDoorW.PrintWords Go.Proofs.YteofiiggnegnkaaDoorW.PrintLast Go.Proofs.YteofiiggnegnkaaDoorW.PrintMore
attribute [local go_sem] max2_int min2_int max_two min_two max_three min_three max_four min_four   -- for this text's walks alone
set_option linter.unusedVariables false
set_option linter.unusedSimpArgs false

/-! ### pandectref02_both: function 47 -/
def pandectref02_both.f : Nat → Int → Int → Bool → ByteArray → List ByteArray → Option (ByteArray × ByteArray)
  | 0, _, _, _, _, _ => none
  | k + 1, a0, a1, a2, a3, l4 => if a1 = a0 then (if a2 = true then (some (a3, a3)) else (if 0 < (l4.length : Int) then (some (rdOf ByteArray.empty l4 0, rdOf ByteArray.empty l4 0)) else (none))) else ((pandectref02_Half.f k a0).bind fun t382 => (if 0 ≤ (wrap64 ((l4.length : Int) - 1)) then (if (wrap64 ((l4.length : Int) - 1)) < (l4.length : Int) then (if (wrap64 ((l4.length : Int) - 1)) ≤ (l4.length : Int) then (if a1 ≤ t382 then ((pandectref02_both.f k t382 a1 a2 a3 (l4.take ((wrap64 ((l4.length : Int) - 1)) : Int).toNat)).bind fun bt385 => ((pandectref02_node.f k bt385.2 (rdOf ByteArray.empty l4 (wrap64 ((l4.length : Int) - 1)))).bind fun t387 => (some (bt385.1, t387)))) else ((pandectref02_both.f k (wrap64 (a0 - t382)) (wrap64 (a1 - t382)) false a3 (l4.take ((wrap64 ((l4.length : Int) - 1)) : Int).toNat)).bind fun bt388 => ((pandectref02_node.f k (rdOf ByteArray.empty l4 (wrap64 ((l4.length : Int) - 1))) bt388.1).bind fun t390 => ((pandectref02_node.f k (rdOf ByteArray.empty l4 (wrap64 ((l4.length : Int) - 1))) bt388.2).bind fun t391 => (some (t390, t391)))))) else (none)) else (none)) else (none)))
set_option maxHeartbeats 8000000 in
set_option maxRecDepth 100000 in
theorem pandectref02_both.calls (k : Nat) : ∀ (a0 : Int) (a1 : Int) (a2 : Bool) (a3 : ByteArray) (A4 : Option Addr) (c4 : Nat) (l4 : List ByteArray) (r1 : ByteArray) (r2 : ByteArray) (w : World) (hr4 : Kd.C Kd.string w A4 l4.length l4) (hc4 : l4.length ≤ c4) (h : pandectref02_both.f k a0 a1 a2 a3 l4 = some (r1, r2)),
    Calls Tryd.prog 47 #[.int .i64 a0, .int .i64 a1, .bool a2, .string a3, .slice A4 l4.length c4] w fun e w' => e = .returned (.tuple #[.string r1, .string r2]) ∧ Below w.heap.size w w' := by
  induction k using Nat.strongRecOn with
  | _ k ih =>
  intro a0 a1 a2 a3 A4 c4 l4 r1 r2 w hr4 hc4 h
  cases k with
  | zero => exact absurd h (by simp [pandectref02_both.f])
  | succ k =>
  simp only [pandectref02_both.f] at h
  have HR4 := Aside0.mk hr4
  have HC4 := Aside0.mk hc4
  clear hr4 hc4
  have HB := Aside0.mk (Below.refl w.heap.size w)
  have H : (if a1 = a0 then (if a2 = true then (some (a3, a3)) else (if 0 < (l4.length : Int) then (some (rdOf ByteArray.empty l4 0, rdOf ByteArray.empty l4 0)) else (none))) else ((pandectref02_Half.f k a0).bind fun t382 => (if 0 ≤ (wrap64 ((l4.length : Int) - 1)) then (if (wrap64 ((l4.length : Int) - 1)) < (l4.length : Int) then (if (wrap64 ((l4.length : Int) - 1)) ≤ (l4.length : Int) then (if a1 ≤ t382 then ((pandectref02_both.f k t382 a1 a2 a3 (l4.take ((wrap64 ((l4.length : Int) - 1)) : Int).toNat)).bind fun bt385 => ((pandectref02_node.f k bt385.2 (rdOf ByteArray.empty l4 (wrap64 ((l4.length : Int) - 1)))).bind fun t387 => (some (bt385.1, t387)))) else ((pandectref02_both.f k (wrap64 (a0 - t382)) (wrap64 (a1 - t382)) false a3 (l4.take ((wrap64 ((l4.length : Int) - 1)) : Int).toNat)).bind fun bt388 => ((pandectref02_node.f k (rdOf ByteArray.empty l4 (wrap64 ((l4.length : Int) - 1))) bt388.1).bind fun t390 => ((pandectref02_node.f k (rdOf ByteArray.empty l4 (wrap64 ((l4.length : Int) - 1))) bt388.2).bind fun t391 => (some (t390, t391)))))) else (none)) else (none)) else (none)))) = some (r1, r2) := h
  clear h
  by_cases c6 : a1 = a0
  · rw [if_pos c6] at H
    have c6b0 : (a1 == a0) = true := beq_iff_eq.mpr c6
    have c6b1 : (a1 != a0) = false := bne_eq_false_iff_eq.mpr c6
    clear c6
    by_cases c7 : a2 = true
    · subst c7
      have H1 : (some (a3, a3)) = some (r1, r2) := by rw [if_pos rfl] at H; exact H
      clear H
      have H := H1
      clear H1
      simp only [Option.some.injEq, Prod.mk.injEq] at H
      obtain ⟨rfl, rfl⟩ := H
      go_enter Tryd.func47, Tryd.ntmps47
      go_wp2
      repeat (go_quiet (fail); try go_wp2)
      go_ret2
      exact ⟨by first | rfl | (simp [errW_none, errW_some] <;> rfl) | (simp [*, errW_none, errW_some] <;> rfl), by first | exact upB HB.out | exact HB.out⟩
    · replace c7 := Bool.eq_false_iff.mpr c7
      subst c7
      have H1 : (if 0 < (l4.length : Int) then (some (rdOf ByteArray.empty l4 0, rdOf ByteArray.empty l4 0)) else (none)) = some (r1, r2) := by rw [if_neg (show ¬ (false = true) by decide)] at H; exact H
      clear H
      have H := H1
      clear H1
      by_cases c8 : 0 < (l4.length : Int)
      · rw [if_pos c8] at H
        have c8b0 : decide (0 < (l4.length : Int)) = true := decide_eq_true c8
        have c8b1 : decide (0 < l4.length) = true := decide_eq_true (by omega)
        clear c8
        simp only [Option.some.injEq, Prod.mk.injEq] at H
        obtain ⟨rfl, rfl⟩ := H
        have p380 : 0 ≤ (0 : Int) := (by omega)
        have q380 : 0 < (l4.length : Int) := of_decide_eq_true (by first | (with_reducible assumption) | assumption)
        obtain ⟨ad380, e380, hx380_0⟩ := Kd.at_string HR4.out 0 p380 q380
        cases e380
        have qi380 : (0 < l4.length) = True := eq_true (by omega)
        (try rw [show ((0 : Int)).toNat = 0 from rfl] at hx380_0)
        (try rw [Addr.add_zero'] at hx380_0)
        replace p380 := eq_true p380
        replace q380 := eq_true q380
        have p381 : 0 ≤ (0 : Int) := (by omega)
        have q381 : 0 < (l4.length : Int) := of_decide_eq_true (by first | (with_reducible assumption) | assumption)
        obtain ⟨ad381, e381, hx381_0⟩ := Kd.at_string HR4.out 0 p381 q381
        obtain rfl : ad380 = ad381 := (by injection e381)
        have qi381 : (0 < l4.length) = True := eq_true (by omega)
        (try rw [show ((0 : Int)).toNat = 0 from rfl] at hx381_0)
        (try rw [Addr.add_zero'] at hx381_0)
        replace p381 := eq_true p381
        replace q381 := eq_true q381
        go_enter Tryd.func47, Tryd.ntmps47
        go_wp2
        repeat (go_quiet (fail); try go_wp2)
        go_ret2
        exact ⟨by first | rfl | (simp [errW_none, errW_some] <;> rfl) | (simp [*, errW_none, errW_some] <;> rfl), by first | exact upB HB.out | exact HB.out⟩
      · rw [if_neg c8] at H
        exact absurd H (by simp)
  · rw [if_neg c6] at H
    have c6b0 : (a1 == a0) = false := beq_eq_false_iff_ne.mpr c6
    have c6b1 : (a1 != a0) = true := bne_iff_ne.mpr c6
    replace H := Option.bind_eq_some_iff.mp H
    obtain ⟨t382, A90, H⟩ := H
    replace H : (if 0 ≤ (wrap64 ((l4.length : Int) - 1)) then (if (wrap64 ((l4.length : Int) - 1)) < (l4.length : Int) then (if (wrap64 ((l4.length : Int) - 1)) ≤ (l4.length : Int) then (if a1 ≤ t382 then ((pandectref02_both.f k t382 a1 a2 a3 (l4.take ((wrap64 ((l4.length : Int) - 1)) : Int).toNat)).bind fun bt385 => ((pandectref02_node.f k bt385.2 (rdOf ByteArray.empty l4 (wrap64 ((l4.length : Int) - 1)))).bind fun t387 => (some (bt385.1, t387)))) else ((pandectref02_both.f k (wrap64 (a0 - t382)) (wrap64 (a1 - t382)) false a3 (l4.take ((wrap64 ((l4.length : Int) - 1)) : Int).toNat)).bind fun bt388 => ((pandectref02_node.f k (rdOf ByteArray.empty l4 (wrap64 ((l4.length : Int) - 1))) bt388.1).bind fun t390 => ((pandectref02_node.f k (rdOf ByteArray.empty l4 (wrap64 ((l4.length : Int) - 1))) bt388.2).bind fun t391 => (some (t390, t391)))))) else (none)) else (none)) else (none)) = some (r1, r2) := H
    have A9 := Aside0.mk A90
    clear A90
    obtain ⟨ji10, hji10⟩ : ∃ j_ : Int, (wrap64 ((l4.length : Int) - 1)) = j_ := ⟨_, rfl⟩
    replace H : (if 0 ≤ (ji10) then (if (ji10) < (l4.length : Int) then (if (ji10) ≤ (l4.length : Int) then (if a1 ≤ t382 then ((pandectref02_both.f k t382 a1 a2 a3 (l4.take ((ji10) : Int).toNat)).bind fun bt385 => ((pandectref02_node.f k bt385.2 (rdOf ByteArray.empty l4 (ji10))).bind fun t387 => (some (bt385.1, t387)))) else ((pandectref02_both.f k (wrap64 (a0 - t382)) (wrap64 (a1 - t382)) false a3 (l4.take ((ji10) : Int).toNat)).bind fun bt388 => ((pandectref02_node.f k (rdOf ByteArray.empty l4 (ji10)) bt388.1).bind fun t390 => ((pandectref02_node.f k (rdOf ByteArray.empty l4 (ji10)) bt388.2).bind fun t391 => (some (t390, t391)))))) else (none)) else (none)) else (none)) = some (r1, r2) := by first | (rw [hji10] at H; exact H) | (simp only [hji10] at H ⊢; exact H)
    (try rw [hji10] at A9)
    have hji10w : (IntKind.i64.wrap ((l4.length : Int) - 1)) = ji10 := (i64_w _).trans hji10
    by_cases c11 : 0 ≤ (ji10)
    · rw [if_pos c11] at H
      have c11b0 : decide (0 ≤ (ji10)) = true := decide_eq_true c11
      clear c11
      by_cases c12 : (ji10) < (l4.length : Int)
      · rw [if_pos c12] at H
        have c12b0 : decide ((ji10) < (l4.length : Int)) = true := decide_eq_true c12
        clear c12
        have c13b0 := eq_true (of_decide_eq_true (by first | (with_reducible assumption) | assumption) : 0 ≤ (ji10))
        by_cases c14 : (ji10) ≤ (l4.length : Int)
        · rw [if_pos c14] at H
          have c14b0 := eq_true c14
          have c14b1 : decide ((ji10) ≤ (l4.length : Int)) = true := decide_eq_true c14
          clear c14
          by_cases c15 : a1 ≤ t382
          · rw [if_pos c15] at H
            have c15b0 : decide (a1 ≤ t382) = true := decide_eq_true c15
            clear c15
            replace H := Option.bind_eq_some_iff.mp H
            obtain ⟨⟨t385, t386⟩, A160, H⟩ := H
            replace H : ((pandectref02_node.f k t386 (rdOf ByteArray.empty l4 (ji10))).bind fun t387 => (some (t385, t387))) = some (r1, r2) := H
            have A16 := Aside0.mk A160
            clear A160
            replace H := Option.bind_eq_some_iff.mp H
            obtain ⟨t387, A170, H⟩ := H
            replace H : (some (t385, t387)) = some (r1, r2) := H
            have A17 := Aside0.mk A170
            clear A170
            simp only [Option.some.injEq, Prod.mk.injEq] at H
            obtain ⟨rfl, rfl⟩ := H
            go_enter Tryd.func47, Tryd.ntmps47
            go_wp2_with (first | (go_at_call 35; (with_reducible refine (pandectref02_Half.calls k a0 t382 _ A9.out).mono ?_); rintro e w' ⟨rfl, ⟨nd, rfl⟩⟩; (try first | exact ⟨rfl, _, World.drewN_drewN _ _ _⟩ | exact ⟨rfl, _, Eq.trans (World.drewN_drewN _ _ _) (congrArg (World.drewN _) (Nat.add_assoc _ _ _))⟩); have p383 : 0 ≤ ((ji10) : Int) := of_decide_eq_true (by first | (with_reducible assumption) | assumption); have q383 : (ji10) < (l4.length : Int) := of_decide_eq_true (by first | (with_reducible assumption) | assumption); obtain ⟨ad383, e383, hx383_0⟩ := Kd.at_string HR4.out (ji10) p383 q383; cases e383; replace p383 := eq_true p383; replace q383 := eq_true q383; obtain ⟨i018, hi018, _, hsz18, _⟩ := info_parts info9; obtain ⟨hcut18, hA18, hC18⟩ := print_take_of (P := Tryd.prog) Value.string (⟨#[]⟩ : ByteArray) 22 9 .i64 Tryd.underlying22 hi018 hsz18 (some ad383) c4 l4 (ji10) (of_decide_eq_true (by first | (with_reducible assumption) | assumption)) (of_decide_eq_true (by first | (with_reducible assumption) | assumption)) HC4.out; have HR384 := Aside0.mk (Kd.C_of_reads (h1 := fun _ => rfl) (hA18 _ (Kd.reads_of_C HR4.out))); have HC384 := Aside0.mk hC18; clear hA18 hC18 hi018 hsz18) | (go_at_call 47; refine calls_of_args (args' := #[.int .i64 t382, .int .i64 a1, .bool a2, .string a3, .slice (some ad383) (l4.take ((ji10) : Int).toNat).length c4]) (by first | (rw [show (l4.take ((ji10) : Int).toNat).length = (ji10).toNat from (by rw [List.length_take]; have h_ : ((ji10) : Int) ≤ (l4.length : Int) := of_decide_eq_true (by first | (with_reducible assumption) | assumption); omega)] <;> rfl) | (simp only [hji10]; rfl) | rfl | (simp only [List.length_drop, List.length_take]; rfl)) ?_; (with_reducible refine (ih k (by omega) t382 a1 a2 a3 _ _ (l4.take ((ji10) : Int).toNat) t385 t386 _ ?side1 ?side2 A16.out).mono ?_); (case side1 => exact upC (HR384.out)); (case side2 => exact HC384.out); rintro e w19 ⟨rfl, hb⟩; have n0_ := Aside0.mk (below_step (by first | exact upB HB.out | exact HB.out) hb); clear HB; have HB := n0_; clear n0_; (try clear hb); (try clear hb2); (try clear hk); (try clear hi)) | (go_at_call 36; (with_reducible refine (pandectref02_node.calls k t386 (rdOf ByteArray.empty l4 (ji10)) t387 _ A17.out).mono ?_); rintro e w20 ⟨rfl, hb⟩; have n0_ := Aside0.mk (below_step (by first | exact upB HB.out | exact HB.out) hb); clear HB; have HB := n0_; clear n0_; (try clear hb); (try clear hb2); (try clear hk); (try clear hi)))
            repeat (go_quiet (first | (go_at_call 35; (with_reducible refine (pandectref02_Half.calls k a0 t382 _ A9.out).mono ?_); rintro e w' ⟨rfl, ⟨nd, rfl⟩⟩; (try first | exact ⟨rfl, _, World.drewN_drewN _ _ _⟩ | exact ⟨rfl, _, Eq.trans (World.drewN_drewN _ _ _) (congrArg (World.drewN _) (Nat.add_assoc _ _ _))⟩); have p383 : 0 ≤ ((ji10) : Int) := of_decide_eq_true (by first | (with_reducible assumption) | assumption); have q383 : (ji10) < (l4.length : Int) := of_decide_eq_true (by first | (with_reducible assumption) | assumption); obtain ⟨ad383, e383, hx383_0⟩ := Kd.at_string HR4.out (ji10) p383 q383; cases e383; replace p383 := eq_true p383; replace q383 := eq_true q383; obtain ⟨i018, hi018, _, hsz18, _⟩ := info_parts info9; obtain ⟨hcut18, hA18, hC18⟩ := print_take_of (P := Tryd.prog) Value.string (⟨#[]⟩ : ByteArray) 22 9 .i64 Tryd.underlying22 hi018 hsz18 (some ad383) c4 l4 (ji10) (of_decide_eq_true (by first | (with_reducible assumption) | assumption)) (of_decide_eq_true (by first | (with_reducible assumption) | assumption)) HC4.out; have HR384 := Aside0.mk (Kd.C_of_reads (h1 := fun _ => rfl) (hA18 _ (Kd.reads_of_C HR4.out))); have HC384 := Aside0.mk hC18; clear hA18 hC18 hi018 hsz18) | (go_at_call 47; refine calls_of_args (args' := #[.int .i64 t382, .int .i64 a1, .bool a2, .string a3, .slice (some ad383) (l4.take ((ji10) : Int).toNat).length c4]) (by first | (rw [show (l4.take ((ji10) : Int).toNat).length = (ji10).toNat from (by rw [List.length_take]; have h_ : ((ji10) : Int) ≤ (l4.length : Int) := of_decide_eq_true (by first | (with_reducible assumption) | assumption); omega)] <;> rfl) | (simp only [hji10]; rfl) | rfl | (simp only [List.length_drop, List.length_take]; rfl)) ?_; (with_reducible refine (ih k (by omega) t382 a1 a2 a3 _ _ (l4.take ((ji10) : Int).toNat) t385 t386 _ ?side1 ?side2 A16.out).mono ?_); (case side1 => exact upC (HR384.out)); (case side2 => exact HC384.out); rintro e w19 ⟨rfl, hb⟩; have n0_ := Aside0.mk (below_step (by first | exact upB HB.out | exact HB.out) hb); clear HB; have HB := n0_; clear n0_; (try clear hb); (try clear hb2); (try clear hk); (try clear hi)) | (go_at_call 36; (with_reducible refine (pandectref02_node.calls k t386 (rdOf ByteArray.empty l4 (ji10)) t387 _ A17.out).mono ?_); rintro e w20 ⟨rfl, hb⟩; have n0_ := Aside0.mk (below_step (by first | exact upB HB.out | exact HB.out) hb); clear HB; have HB := n0_; clear n0_; (try clear hb); (try clear hb2); (try clear hk); (try clear hi))); try go_wp2_with (first | (go_at_call 35; (with_reducible refine (pandectref02_Half.calls k a0 t382 _ A9.out).mono ?_); rintro e w' ⟨rfl, ⟨nd, rfl⟩⟩; (try first | exact ⟨rfl, _, World.drewN_drewN _ _ _⟩ | exact ⟨rfl, _, Eq.trans (World.drewN_drewN _ _ _) (congrArg (World.drewN _) (Nat.add_assoc _ _ _))⟩); have p383 : 0 ≤ ((ji10) : Int) := of_decide_eq_true (by first | (with_reducible assumption) | assumption); have q383 : (ji10) < (l4.length : Int) := of_decide_eq_true (by first | (with_reducible assumption) | assumption); obtain ⟨ad383, e383, hx383_0⟩ := Kd.at_string HR4.out (ji10) p383 q383; cases e383; replace p383 := eq_true p383; replace q383 := eq_true q383; obtain ⟨i018, hi018, _, hsz18, _⟩ := info_parts info9; obtain ⟨hcut18, hA18, hC18⟩ := print_take_of (P := Tryd.prog) Value.string (⟨#[]⟩ : ByteArray) 22 9 .i64 Tryd.underlying22 hi018 hsz18 (some ad383) c4 l4 (ji10) (of_decide_eq_true (by first | (with_reducible assumption) | assumption)) (of_decide_eq_true (by first | (with_reducible assumption) | assumption)) HC4.out; have HR384 := Aside0.mk (Kd.C_of_reads (h1 := fun _ => rfl) (hA18 _ (Kd.reads_of_C HR4.out))); have HC384 := Aside0.mk hC18; clear hA18 hC18 hi018 hsz18) | (go_at_call 47; refine calls_of_args (args' := #[.int .i64 t382, .int .i64 a1, .bool a2, .string a3, .slice (some ad383) (l4.take ((ji10) : Int).toNat).length c4]) (by first | (rw [show (l4.take ((ji10) : Int).toNat).length = (ji10).toNat from (by rw [List.length_take]; have h_ : ((ji10) : Int) ≤ (l4.length : Int) := of_decide_eq_true (by first | (with_reducible assumption) | assumption); omega)] <;> rfl) | (simp only [hji10]; rfl) | rfl | (simp only [List.length_drop, List.length_take]; rfl)) ?_; (with_reducible refine (ih k (by omega) t382 a1 a2 a3 _ _ (l4.take ((ji10) : Int).toNat) t385 t386 _ ?side1 ?side2 A16.out).mono ?_); (case side1 => exact upC (HR384.out)); (case side2 => exact HC384.out); rintro e w19 ⟨rfl, hb⟩; have n0_ := Aside0.mk (below_step (by first | exact upB HB.out | exact HB.out) hb); clear HB; have HB := n0_; clear n0_; (try clear hb); (try clear hb2); (try clear hk); (try clear hi)) | (go_at_call 36; (with_reducible refine (pandectref02_node.calls k t386 (rdOf ByteArray.empty l4 (ji10)) t387 _ A17.out).mono ?_); rintro e w20 ⟨rfl, hb⟩; have n0_ := Aside0.mk (below_step (by first | exact upB HB.out | exact HB.out) hb); clear HB; have HB := n0_; clear n0_; (try clear hb); (try clear hb2); (try clear hk); (try clear hi))))
            go_ret2
            exact ⟨by first | rfl | (simp [errW_none, errW_some] <;> rfl) | (simp only [← hji10]; first | rfl | (simp [errW_none, errW_some] <;> rfl)) | (simp [*, errW_none, errW_some] <;> rfl), by first | exact upB HB.out | exact HB.out⟩
          · rw [if_neg c15] at H
            have c15b0 : decide (a1 ≤ t382) = false := decide_eq_false c15
            clear c15
            replace H := Option.bind_eq_some_iff.mp H
            obtain ⟨⟨t388, t389⟩, A210, H⟩ := H
            replace H : ((pandectref02_node.f k (rdOf ByteArray.empty l4 (ji10)) t388).bind fun t390 => ((pandectref02_node.f k (rdOf ByteArray.empty l4 (ji10)) t389).bind fun t391 => (some (t390, t391)))) = some (r1, r2) := H
            have A21 := Aside0.mk A210
            clear A210
            replace H := Option.bind_eq_some_iff.mp H
            obtain ⟨t390, A220, H⟩ := H
            replace H : ((pandectref02_node.f k (rdOf ByteArray.empty l4 (ji10)) t389).bind fun t391 => (some (t390, t391))) = some (r1, r2) := H
            have A22 := Aside0.mk A220
            clear A220
            replace H := Option.bind_eq_some_iff.mp H
            obtain ⟨t391, A230, H⟩ := H
            replace H : (some (t390, t391)) = some (r1, r2) := H
            have A23 := Aside0.mk A230
            clear A230
            simp only [Option.some.injEq, Prod.mk.injEq] at H
            obtain ⟨rfl, rfl⟩ := H
            go_enter Tryd.func47, Tryd.ntmps47
            have tk28_ : True := trivial
            have tk29_ : True := trivial
            go_wp2_with (first | (go_at_call 35; (with_reducible refine (pandectref02_Half.calls k a0 t382 _ A9.out).mono ?_); rintro e w' ⟨rfl, ⟨nd, rfl⟩⟩; (try first | exact ⟨rfl, _, World.drewN_drewN _ _ _⟩ | exact ⟨rfl, _, Eq.trans (World.drewN_drewN _ _ _) (congrArg (World.drewN _) (Nat.add_assoc _ _ _))⟩); have p383 : 0 ≤ ((ji10) : Int) := of_decide_eq_true (by first | (with_reducible assumption) | assumption); have q383 : (ji10) < (l4.length : Int) := of_decide_eq_true (by first | (with_reducible assumption) | assumption); obtain ⟨ad383, e383, hx383_0⟩ := Kd.at_string HR4.out (ji10) p383 q383; cases e383; replace p383 := eq_true p383; replace q383 := eq_true q383; (try clear hcut18); obtain ⟨i024, hi024, _, hsz24, _⟩ := info_parts info9; obtain ⟨hcut24, hA24, hC24⟩ := print_take_of (P := Tryd.prog) Value.string (⟨#[]⟩ : ByteArray) 22 9 .i64 Tryd.underlying22 hi024 hsz24 (some ad383) c4 l4 (ji10) (of_decide_eq_true (by first | (with_reducible assumption) | assumption)) (of_decide_eq_true (by first | (with_reducible assumption) | assumption)) HC4.out; have HR384 := Aside0.mk (Kd.C_of_reads (h1 := fun _ => rfl) (hA24 _ (Kd.reads_of_C HR4.out))); have HC384 := Aside0.mk hC24; clear hA24 hC24 hi024 hsz24) | (go_at_call 47; refine calls_of_args (args' := #[.int .i64 (wrap64 (a0 - t382)), .int .i64 (wrap64 (a1 - t382)), .bool false, .string a3, .slice (some ad383) (l4.take ((ji10) : Int).toNat).length c4]) (by first | (rw [show (l4.take ((ji10) : Int).toNat).length = (ji10).toNat from (by rw [List.length_take]; have h_ : ((ji10) : Int) ≤ (l4.length : Int) := of_decide_eq_true (by first | (with_reducible assumption) | assumption); omega)] <;> rfl) | (simp only [hji10]; rfl) | rfl | (simp only [List.length_drop, List.length_take]; rfl)) ?_; (with_reducible refine (ih k (by omega) (wrap64 (a0 - t382)) (wrap64 (a1 - t382)) false a3 _ _ (l4.take ((ji10) : Int).toNat) t388 t389 _ ?side1 ?side2 A21.out).mono ?_); (case side1 => exact upC (HR384.out)); (case side2 => exact HC384.out); rintro e w25 ⟨rfl, hb⟩; have n0_ := Aside0.mk (below_step (by first | exact upB HB.out | exact HB.out) hb); clear HB; have HB := n0_; clear n0_; (try clear hb); (try clear hb2); (try clear hk); (try clear hi)) | (go_at_call 36; clear tk28_; (with_reducible refine (pandectref02_node.calls k (rdOf ByteArray.empty l4 (ji10)) t388 t390 _ A22.out).mono ?_); rintro e w26 ⟨rfl, hb⟩; have n0_ := Aside0.mk (below_step (by first | exact upB HB.out | exact HB.out) hb); clear HB; have HB := n0_; clear n0_; (try clear hb); (try clear hb2); (try clear hk); (try clear hi)) | (go_at_call 36; clear tk29_; (with_reducible refine (pandectref02_node.calls k (rdOf ByteArray.empty l4 (ji10)) t389 t391 _ A23.out).mono ?_); rintro e w27 ⟨rfl, hb⟩; have n0_ := Aside0.mk (below_step (by first | exact upB HB.out | exact HB.out) hb); clear HB; have HB := n0_; clear n0_; (try clear hb); (try clear hb2); (try clear hk); (try clear hi)))
            repeat (go_quiet (first | (go_at_call 35; (with_reducible refine (pandectref02_Half.calls k a0 t382 _ A9.out).mono ?_); rintro e w' ⟨rfl, ⟨nd, rfl⟩⟩; (try first | exact ⟨rfl, _, World.drewN_drewN _ _ _⟩ | exact ⟨rfl, _, Eq.trans (World.drewN_drewN _ _ _) (congrArg (World.drewN _) (Nat.add_assoc _ _ _))⟩); have p383 : 0 ≤ ((ji10) : Int) := of_decide_eq_true (by first | (with_reducible assumption) | assumption); have q383 : (ji10) < (l4.length : Int) := of_decide_eq_true (by first | (with_reducible assumption) | assumption); obtain ⟨ad383, e383, hx383_0⟩ := Kd.at_string HR4.out (ji10) p383 q383; cases e383; replace p383 := eq_true p383; replace q383 := eq_true q383; (try clear hcut18); obtain ⟨i024, hi024, _, hsz24, _⟩ := info_parts info9; obtain ⟨hcut24, hA24, hC24⟩ := print_take_of (P := Tryd.prog) Value.string (⟨#[]⟩ : ByteArray) 22 9 .i64 Tryd.underlying22 hi024 hsz24 (some ad383) c4 l4 (ji10) (of_decide_eq_true (by first | (with_reducible assumption) | assumption)) (of_decide_eq_true (by first | (with_reducible assumption) | assumption)) HC4.out; have HR384 := Aside0.mk (Kd.C_of_reads (h1 := fun _ => rfl) (hA24 _ (Kd.reads_of_C HR4.out))); have HC384 := Aside0.mk hC24; clear hA24 hC24 hi024 hsz24) | (go_at_call 47; refine calls_of_args (args' := #[.int .i64 (wrap64 (a0 - t382)), .int .i64 (wrap64 (a1 - t382)), .bool false, .string a3, .slice (some ad383) (l4.take ((ji10) : Int).toNat).length c4]) (by first | (rw [show (l4.take ((ji10) : Int).toNat).length = (ji10).toNat from (by rw [List.length_take]; have h_ : ((ji10) : Int) ≤ (l4.length : Int) := of_decide_eq_true (by first | (with_reducible assumption) | assumption); omega)] <;> rfl) | (simp only [hji10]; rfl) | rfl | (simp only [List.length_drop, List.length_take]; rfl)) ?_; (with_reducible refine (ih k (by omega) (wrap64 (a0 - t382)) (wrap64 (a1 - t382)) false a3 _ _ (l4.take ((ji10) : Int).toNat) t388 t389 _ ?side1 ?side2 A21.out).mono ?_); (case side1 => exact upC (HR384.out)); (case side2 => exact HC384.out); rintro e w25 ⟨rfl, hb⟩; have n0_ := Aside0.mk (below_step (by first | exact upB HB.out | exact HB.out) hb); clear HB; have HB := n0_; clear n0_; (try clear hb); (try clear hb2); (try clear hk); (try clear hi)) | (go_at_call 36; clear tk28_; (with_reducible refine (pandectref02_node.calls k (rdOf ByteArray.empty l4 (ji10)) t388 t390 _ A22.out).mono ?_); rintro e w26 ⟨rfl, hb⟩; have n0_ := Aside0.mk (below_step (by first | exact upB HB.out | exact HB.out) hb); clear HB; have HB := n0_; clear n0_; (try clear hb); (try clear hb2); (try clear hk); (try clear hi)) | (go_at_call 36; clear tk29_; (with_reducible refine (pandectref02_node.calls k (rdOf ByteArray.empty l4 (ji10)) t389 t391 _ A23.out).mono ?_); rintro e w27 ⟨rfl, hb⟩; have n0_ := Aside0.mk (below_step (by first | exact upB HB.out | exact HB.out) hb); clear HB; have HB := n0_; clear n0_; (try clear hb); (try clear hb2); (try clear hk); (try clear hi))); try go_wp2_with (first | (go_at_call 35; (with_reducible refine (pandectref02_Half.calls k a0 t382 _ A9.out).mono ?_); rintro e w' ⟨rfl, ⟨nd, rfl⟩⟩; (try first | exact ⟨rfl, _, World.drewN_drewN _ _ _⟩ | exact ⟨rfl, _, Eq.trans (World.drewN_drewN _ _ _) (congrArg (World.drewN _) (Nat.add_assoc _ _ _))⟩); have p383 : 0 ≤ ((ji10) : Int) := of_decide_eq_true (by first | (with_reducible assumption) | assumption); have q383 : (ji10) < (l4.length : Int) := of_decide_eq_true (by first | (with_reducible assumption) | assumption); obtain ⟨ad383, e383, hx383_0⟩ := Kd.at_string HR4.out (ji10) p383 q383; cases e383; replace p383 := eq_true p383; replace q383 := eq_true q383; (try clear hcut18); obtain ⟨i024, hi024, _, hsz24, _⟩ := info_parts info9; obtain ⟨hcut24, hA24, hC24⟩ := print_take_of (P := Tryd.prog) Value.string (⟨#[]⟩ : ByteArray) 22 9 .i64 Tryd.underlying22 hi024 hsz24 (some ad383) c4 l4 (ji10) (of_decide_eq_true (by first | (with_reducible assumption) | assumption)) (of_decide_eq_true (by first | (with_reducible assumption) | assumption)) HC4.out; have HR384 := Aside0.mk (Kd.C_of_reads (h1 := fun _ => rfl) (hA24 _ (Kd.reads_of_C HR4.out))); have HC384 := Aside0.mk hC24; clear hA24 hC24 hi024 hsz24) | (go_at_call 47; refine calls_of_args (args' := #[.int .i64 (wrap64 (a0 - t382)), .int .i64 (wrap64 (a1 - t382)), .bool false, .string a3, .slice (some ad383) (l4.take ((ji10) : Int).toNat).length c4]) (by first | (rw [show (l4.take ((ji10) : Int).toNat).length = (ji10).toNat from (by rw [List.length_take]; have h_ : ((ji10) : Int) ≤ (l4.length : Int) := of_decide_eq_true (by first | (with_reducible assumption) | assumption); omega)] <;> rfl) | (simp only [hji10]; rfl) | rfl | (simp only [List.length_drop, List.length_take]; rfl)) ?_; (with_reducible refine (ih k (by omega) (wrap64 (a0 - t382)) (wrap64 (a1 - t382)) false a3 _ _ (l4.take ((ji10) : Int).toNat) t388 t389 _ ?side1 ?side2 A21.out).mono ?_); (case side1 => exact upC (HR384.out)); (case side2 => exact HC384.out); rintro e w25 ⟨rfl, hb⟩; have n0_ := Aside0.mk (below_step (by first | exact upB HB.out | exact HB.out) hb); clear HB; have HB := n0_; clear n0_; (try clear hb); (try clear hb2); (try clear hk); (try clear hi)) | (go_at_call 36; clear tk28_; (with_reducible refine (pandectref02_node.calls k (rdOf ByteArray.empty l4 (ji10)) t388 t390 _ A22.out).mono ?_); rintro e w26 ⟨rfl, hb⟩; have n0_ := Aside0.mk (below_step (by first | exact upB HB.out | exact HB.out) hb); clear HB; have HB := n0_; clear n0_; (try clear hb); (try clear hb2); (try clear hk); (try clear hi)) | (go_at_call 36; clear tk29_; (with_reducible refine (pandectref02_node.calls k (rdOf ByteArray.empty l4 (ji10)) t389 t391 _ A23.out).mono ?_); rintro e w27 ⟨rfl, hb⟩; have n0_ := Aside0.mk (below_step (by first | exact upB HB.out | exact HB.out) hb); clear HB; have HB := n0_; clear n0_; (try clear hb); (try clear hb2); (try clear hk); (try clear hi))))
            go_ret2
            exact ⟨by first | rfl | (simp [errW_none, errW_some] <;> rfl) | (simp only [← hji10]; first | rfl | (simp [errW_none, errW_some] <;> rfl)) | (simp [*, errW_none, errW_some] <;> rfl), by first | exact upB HB.out | exact HB.out⟩
        · rw [if_neg c14] at H
          exact absurd H (by simp)
      · rw [if_neg c12] at H
        exact absurd H (by simp)
    · rw [if_neg c11] at H
      exact absurd H (by simp)

/-! ### pandectref02_Extends: function 21 -/
def pandectref02_Extends.j0 : Nat → ByteArray → Int → ByteArray → Int → List ByteArray → Bool → Option (Bool)
  | 0, _, _, _, _, _, _ => none
  | k + 1, x0, x1, x2, x3, x4, x35 => if x35 = true then (some false) else (if x1 = 0 then (if (x4.length : Int) = 0 then ((pandectref02_Empty.f k).bind fun t397 => (if x0.toList = t397.toList then (if x3 > 0 then (some true) else (some (x2.toList == x0.toList))) else (some false))) else (some false)) else (if x1 = x3 then (if (x4.length : Int) = 0 then (some (x0.toList == x2.toList)) else (some false)) else ((pandectref02_long.f k x3 x1 true).bind fun t398 => (if (x4.length : Int) = t398 then ((pandectref02_both.f k x3 x1 true x0 x4).bind fun bt399 => (if bt399.1.toList = x0.toList then (some (bt399.2.toList == x2.toList)) else (some false))) else (some false)))))
def pandectref02_Extends.f (k : Nat) (a0 : ByteArray) (a1 : Int) (a2 : ByteArray) (a3 : Int) (l4 : List ByteArray) : Option (Bool) := if a1 < 0 then (pandectref02_Extends.j0 k a0 a1 a2 a3 l4 true) else (if a1 > a3 then (pandectref02_Extends.j0 k a0 a1 a2 a3 l4 true) else (if a3 > 1000000 then (pandectref02_Extends.j0 k a0 a1 a2 a3 l4 true) else ((pandectref02_digests.f k (([a0, a2] : List ByteArray))).bind fun t395 => (if t395 = true then ((pandectref02_digests.f k l4).bind fun t396 => (pandectref02_Extends.j0 k a0 a1 a2 a3 l4 (!t396))) else (pandectref02_Extends.j0 k a0 a1 a2 a3 l4 true)))))
set_option maxHeartbeats 8000000 in
set_option maxRecDepth 100000 in
theorem pandectref02_Extends.calls (k : Nat) (a0 : ByteArray) (a1 : Int) (a2 : ByteArray) (a3 : Int) (A4 : Option Addr) (c4 : Nat) (l4 : List ByteArray) (r : Bool) (w : World) (hr4 : Kd.C Kd.string w A4 l4.length l4) (hc4 : l4.length ≤ c4) (h : pandectref02_Extends.f k a0 a1 a2 a3 l4 = some r) :
    Calls Tryd.prog 21 #[.string a0, .int .i64 a1, .string a2, .int .i64 a3, .slice A4 l4.length c4] w fun e w' => e = .returned (.bool r) ∧ Below w.heap.size w w' := by
  have HR4 := Aside0.mk hr4
  have HC4 := Aside0.mk hc4
  clear hr4 hc4
  have HB := Aside0.mk (Below.refl w.heap.size w)
  have H : (if a1 < 0 then (pandectref02_Extends.j0 k a0 a1 a2 a3 l4 true) else (if a1 > a3 then (pandectref02_Extends.j0 k a0 a1 a2 a3 l4 true) else (if a3 > 1000000 then (pandectref02_Extends.j0 k a0 a1 a2 a3 l4 true) else ((pandectref02_digests.f k (([a0, a2] : List ByteArray))).bind fun t395 => (if t395 = true then ((pandectref02_digests.f k l4).bind fun t396 => (pandectref02_Extends.j0 k a0 a1 a2 a3 l4 (!t396))) else (pandectref02_Extends.j0 k a0 a1 a2 a3 l4 true)))))) = some r := h
  clear h
  have HC6 := Aside0.mk H
  clear H
  go_enter Tryd.func21, Tryd.ntmps21
  go_upto_region 1 with (fail)
  go_cut [35] (fun v35 wc => ∃ (kq : Nat) (x35_5 : Bool), v35 = .bool x35_5 ∧ Aside0 (pandectref02_Extends.j0 kq a0 a1 a2 a3 l4 x35_5 = some r) ∧ Aside0 (kq ≤ k) ∧ Aside0 (Below w.heap.size w wc))
  case first =>
    have H := HC6.out
    clear HC6
    by_cases c7 : a1 < 0
    · rw [if_pos c7] at H
      have c7b0 : decide (a1 < 0) = true := decide_eq_true c7
      clear c7
      (first | rw [c7b0] | (simp only [i64_w, i32_w]; rw [c7b0]) | skip)
      have H' := Aside0.mk H
      clear H
      go_wp2
      go_meet
      case rel => exact ⟨_, (true), (by first | rfl | (simp; done) | (simp [*]; done)), H', ⟨by first | omega | exact Nat.le_refl _⟩, ⟨by first | exact upB HB.out | exact HB.out⟩⟩
    · rw [if_neg c7] at H
      have c7b0 : decide (a1 < 0) = false := decide_eq_false c7
      clear c7
      (first | rw [c7b0] | (simp only [i64_w, i32_w]; rw [c7b0]) | skip)
      by_cases c8 : a1 > a3
      · rw [if_pos c8] at H
        have c8b0 : decide (a3 < a1) = true := decide_eq_true c8
        clear c8
        have H' := Aside0.mk H
        clear H
        go_wp2
        go_meet
        case rel => exact ⟨_, (true), (by first | rfl | (simp; done) | (simp [*]; done)), H', ⟨by first | omega | exact Nat.le_refl _⟩, ⟨by first | exact upB HB.out | exact HB.out⟩⟩
      · rw [if_neg c8] at H
        have c8b0 : decide (a3 < a1) = false := decide_eq_false c8
        clear c8
        by_cases c9 : a3 > 1000000
        · rw [if_pos c9] at H
          have c9b0 : decide (1000000 < a3) = true := decide_eq_true c9
          clear c9
          have H' := Aside0.mk H
          clear H
          go_wp2
          go_meet
          case rel => exact ⟨_, (true), (by first | rfl | (simp; done) | (simp [*]; done)), H', ⟨by first | omega | exact Nat.le_refl _⟩, ⟨by first | exact upB HB.out | exact HB.out⟩⟩
        · rw [if_neg c9] at H
          have c9b0 : decide (1000000 < a3) = false := decide_eq_false c9
          clear c9
          obtain ⟨y392, hy392⟩ : ∃ y_ : List ByteArray, y_ = (([a0, a2] : List ByteArray)) := ⟨_, rfl⟩
          replace H : ((pandectref02_digests.f k y392).bind fun t395 => (if t395 = true then ((pandectref02_digests.f k l4).bind fun t396 => (pandectref02_Extends.j0 k a0 a1 a2 a3 l4 (!t396))) else (pandectref02_Extends.j0 k a0 a1 a2 a3 l4 true))) = some r := by first | (rw [hy392]; with_reducible exact H) | (have H2_ := (Option.bind_some _ _).symm.trans H; rw [hy392]; with_reducible exact H2_) | (have H2_ := (Option.bind_some _ _).symm.trans H; with_reducible exact H2_) | with_reducible exact H | (rw [hy392]; exact H) | exact H
          have Ny392 := Aside0.mk hy392
          clear hy392
          replace H := Option.bind_eq_some_iff.mp H
          obtain ⟨t395, A100, H⟩ := H
          replace H : (if t395 = true then ((pandectref02_digests.f k l4).bind fun t396 => (pandectref02_Extends.j0 k a0 a1 a2 a3 l4 (!t396))) else (pandectref02_Extends.j0 k a0 a1 a2 a3 l4 true)) = some r := H
          have A10 := Aside0.mk A100
          clear A100
          by_cases c11 : t395 = true
          · subst c11
            have H1 : ((pandectref02_digests.f k l4).bind fun t396 => (pandectref02_Extends.j0 k a0 a1 a2 a3 l4 (!t396))) = some r := by rw [if_pos rfl] at H; exact H
            clear H
            have H := H1
            clear H1
            replace H := Option.bind_eq_some_iff.mp H
            obtain ⟨t396, A120, H⟩ := H
            replace H : (pandectref02_Extends.j0 k a0 a1 a2 a3 l4 (!t396)) = some r := H
            have A12 := Aside0.mk A120
            clear A120
            have H' := Aside0.mk H
            clear H
            have tk16_ : True := trivial
            have tk17_ : True := trivial
            go_wp2_with (first | ((with_reducible refine gate_dst (N := 27) rfl ?_); (try (refine gate_guard (by rfl) ?_; dsimp only)); refine Kd.R_lit Kd.string _ 9 ?hg (N := 27) ?hd (xs := ([a0, a2] : List ByteArray)) (inner := [.string a0, .string a2]) (ok := fun _ => True) (okp := fun _ => True) ?hr ?hp (fun _ hk => hk) trivial (Below.refl _ _) (Nat.le_refl _) (by simp) ?_; (case hd => rfl); (case hg => rfl); (case hr => first | (go_simp; done) | (go_simp; rfl)); (case hp => exact (Reps.one (show Kd.M Kd.string _ _ _ a0 [.string a0] from rfl) (Reps.one (show Kd.M Kd.string _ _ _ a2 [.string a2] from rfl) (Reps.none _ _)))); intro v393 w13 ho14 hb hg_ hnew_; clear hg_ hnew_; (first | rw [← Ny392.out] at ho14 | (simp only [Int.reduceToNat] at ho14; rw [← Ny392.out] at ho14)); have n0_ := Aside0.mk (Kd.R_lower ho14 (below_size (by first | exact upB HB.out | exact HB.out))); have n1_ := Aside0.mk (below_step (by first | exact upB HB.out | exact HB.out) hb); clear HB; have HO394 := n0_; have HB := n1_; clear n0_ n1_; clear hb ho14; obtain ⟨Ao15, co15, eo15⟩ := Kd.R_slice HO394.out; subst eo15) | (go_at_call 43; clear tk16_; (with_reducible refine (pandectref02_digests.calls k _ _ y392 true _ ?side1 ?side2 A10.out).mono ?_); (case side1 => exact upC ((Kd.R_reads' HO394.out).2.2)); (case side2 => exact (Kd.R_reads' HO394.out).2.1); rintro e w' ⟨rfl, ⟨nd, rfl⟩⟩) | (go_at_call 43; clear tk17_; (with_reducible refine (pandectref02_digests.calls k _ _ l4 t396 _ ?side1 ?side2 A12.out).mono ?_); (case side1 => repeat (first | exact (Kd.C_below HR4.out (by first | exact upB HB.out | exact HB.out)) | (with_reducible refine Kd.C_alloc ?_ _) | (with_reducible refine Kd.C_drewN ?_ _) | (with_reducible refine Kd.C_drew ?_))); (case side2 => exact HC4.out); rintro e w' ⟨rfl, ⟨nd, rfl⟩⟩))
            go_meet
            case rel => exact ⟨_, (!t396), (by first | rfl | (simp; done) | (simp [*]; done)), H', ⟨by first | omega | exact Nat.le_refl _⟩, ⟨by first | exact upB HB.out | exact HB.out⟩⟩
          · replace c11 := Bool.eq_false_iff.mpr c11
            subst c11
            have H1 : (pandectref02_Extends.j0 k a0 a1 a2 a3 l4 true) = some r := by rw [if_neg (show ¬ (false = true) by decide)] at H; exact H
            clear H
            have H := H1
            clear H1
            have H' := Aside0.mk H
            clear H
            go_wp2_with (first | ((with_reducible refine gate_dst (N := 27) rfl ?_); (try (refine gate_guard (by rfl) ?_; dsimp only)); refine Kd.R_lit Kd.string _ 9 ?hg (N := 27) ?hd (xs := ([a0, a2] : List ByteArray)) (inner := [.string a0, .string a2]) (ok := fun _ => True) (okp := fun _ => True) ?hr ?hp (fun _ hk => hk) trivial (Below.refl _ _) (Nat.le_refl _) (by simp) ?_; (case hd => rfl); (case hg => rfl); (case hr => first | (go_simp; done) | (go_simp; rfl)); (case hp => exact (Reps.one (show Kd.M Kd.string _ _ _ a0 [.string a0] from rfl) (Reps.one (show Kd.M Kd.string _ _ _ a2 [.string a2] from rfl) (Reps.none _ _)))); intro v393 w18 ho19 hb hg_ hnew_; clear hg_ hnew_; (first | rw [← Ny392.out] at ho19 | (simp only [Int.reduceToNat] at ho19; rw [← Ny392.out] at ho19)); have n0_ := Aside0.mk (Kd.R_lower ho19 (below_size (by first | exact upB HB.out | exact HB.out))); have n1_ := Aside0.mk (below_step (by first | exact upB HB.out | exact HB.out) hb); clear HB; have HO394 := n0_; have HB := n1_; clear n0_ n1_; clear hb ho19; obtain ⟨Ao20, co20, eo20⟩ := Kd.R_slice HO394.out; subst eo20) | (go_at_call 43; (with_reducible refine (pandectref02_digests.calls k _ _ y392 false _ ?side1 ?side2 A10.out).mono ?_); (case side1 => exact upC ((Kd.R_reads' HO394.out).2.2)); (case side2 => exact (Kd.R_reads' HO394.out).2.1); rintro e w' ⟨rfl, ⟨nd, rfl⟩⟩))
            go_meet
            case rel => exact ⟨_, (true), (by first | rfl | (simp; done) | (simp [*]; done)), H', ⟨by first | omega | exact Nat.le_refl _⟩, ⟨by first | exact upB HB.out | exact HB.out⟩⟩
  case rest =>
    clear HC6
    try clear c1
    try clear c2
    try clear p2
    try clear c4
    try clear c7
    try clear c7b0
    try clear c8
    try clear c8b0
    try clear c9
    try clear c9b0
    try clear c11
    obtain ⟨kq, x35_5, rfl, HA, HJ5, HB⟩ := hcut
    cases kq with
    | zero => exact absurd HA.out (by simp [pandectref02_Extends.j0])
    | succ kj5 =>
      have H := HA.out
      clear HA
      simp only [pandectref02_Extends.j0] at H
      by_cases c21 : x35_5 = true
      · subst c21
        have H1 : (some false) = some r := by rw [if_pos rfl] at H; exact H
        clear H
        have H := H1
        clear H1
        obtain rfl := Option.some.inj H
        go_wp2
        go_ret
        exact ⟨by first | rfl | (simp [errW_none, errW_some] <;> rfl) | (simp [*, errW_none, errW_some] <;> rfl), by first | exact upB HB.out | exact HB.out⟩
      · replace c21 := Bool.eq_false_iff.mpr c21
        subst c21
        have H1 : (if a1 = 0 then (if (l4.length : Int) = 0 then ((pandectref02_Empty.f kj5).bind fun t397 => (if a0.toList = t397.toList then (if a3 > 0 then (some true) else (some (a2.toList == a0.toList))) else (some false))) else (some false)) else (if a1 = a3 then (if (l4.length : Int) = 0 then (some (a0.toList == a2.toList)) else (some false)) else ((pandectref02_long.f kj5 a3 a1 true).bind fun t398 => (if (l4.length : Int) = t398 then ((pandectref02_both.f kj5 a3 a1 true a0 l4).bind fun bt399 => (if bt399.1.toList = a0.toList then (some (bt399.2.toList == a2.toList)) else (some false))) else (some false))))) = some r := by rw [if_neg (show ¬ (false = true) by decide)] at H; exact H
        clear H
        have H := H1
        clear H1
        by_cases c22 : a1 = 0
        · rw [if_pos c22] at H
          have c22b0 : (a1 == 0) = true := beq_iff_eq.mpr c22
          have c22b1 : (a1 != 0) = false := bne_eq_false_iff_eq.mpr c22
          clear c22
          by_cases c23 : (l4.length : Int) = 0
          · rw [if_pos c23] at H
            have c23b0 : ((l4.length : Int) == 0) = true := beq_iff_eq.mpr c23
            have c23b1 : ((l4.length : Int) != 0) = false := bne_eq_false_iff_eq.mpr c23
            clear c23
            replace H := Option.bind_eq_some_iff.mp H
            obtain ⟨t397, A240, H⟩ := H
            replace H : (if a0.toList = t397.toList then (if a3 > 0 then (some true) else (some (a2.toList == a0.toList))) else (some false)) = some r := H
            have A24 := Aside0.mk A240
            clear A240
            by_cases c25 : a0.toList = t397.toList
            · rw [if_pos c25] at H
              have c25b0 : (a0.toList == t397.toList) = true := beq_iff_eq.mpr c25
              have c25b1 : (a0.toList != t397.toList) = false := bne_eq_false_iff_eq.mpr c25
              clear c25
              by_cases c26 : a3 > 0
              · rw [if_pos c26] at H
                have c26b0 : decide (0 < a3) = true := decide_eq_true c26
                clear c26
                obtain rfl := Option.some.inj H
                go_wp2_with (first | (go_at_call 33; (with_reducible refine (pandectref02_Empty.calls kj5  t397 _ A24.out).mono ?_); rintro e w27 ⟨rfl, hb⟩; have n0_ := Aside0.mk (below_step (by first | exact upB HB.out | exact HB.out) hb); clear HB; have HB := n0_; clear n0_; (try clear hb); (try clear hb2); (try clear hk); (try clear hi)))
                go_ret
                exact ⟨by first | rfl | (simp [errW_none, errW_some] <;> rfl) | (simp [*, errW_none, errW_some] <;> rfl), by first | exact upB HB.out | exact HB.out⟩
              · rw [if_neg c26] at H
                have c26b0 : decide (0 < a3) = false := decide_eq_false c26
                clear c26
                obtain rfl := Option.some.inj H
                go_wp2_with (first | (go_at_call 33; (with_reducible refine (pandectref02_Empty.calls kj5  t397 _ A24.out).mono ?_); rintro e w28 ⟨rfl, hb⟩; have n0_ := Aside0.mk (below_step (by first | exact upB HB.out | exact HB.out) hb); clear HB; have HB := n0_; clear n0_; (try clear hb); (try clear hb2); (try clear hk); (try clear hi)))
                go_ret
                exact ⟨by first | rfl | (simp [errW_none, errW_some] <;> rfl) | (simp [*, errW_none, errW_some] <;> rfl), by first | exact upB HB.out | exact HB.out⟩
            · rw [if_neg c25] at H
              have c25b0 : (a0.toList == t397.toList) = false := beq_eq_false_iff_ne.mpr c25
              have c25b1 : (a0.toList != t397.toList) = true := bne_iff_ne.mpr c25
              obtain rfl := Option.some.inj H
              go_wp2_with (first | (go_at_call 33; (with_reducible refine (pandectref02_Empty.calls kj5  t397 _ A24.out).mono ?_); rintro e w29 ⟨rfl, hb⟩; have n0_ := Aside0.mk (below_step (by first | exact upB HB.out | exact HB.out) hb); clear HB; have HB := n0_; clear n0_; (try clear hb); (try clear hb2); (try clear hk); (try clear hi)))
              go_ret
              exact ⟨by first | rfl | (simp [errW_none, errW_some] <;> rfl) | (simp [*, errW_none, errW_some] <;> rfl), by first | exact upB HB.out | exact HB.out⟩
          · rw [if_neg c23] at H
            have c23b0 : ((l4.length : Int) == 0) = false := beq_eq_false_iff_ne.mpr c23
            have c23b1 : ((l4.length : Int) != 0) = true := bne_iff_ne.mpr c23
            have c23b2 : ¬ (l4 = []) := fun h_ => c23 (by rw [h_]; rfl)
            obtain rfl := Option.some.inj H
            go_wp2
            go_ret
            exact ⟨by first | rfl | (simp [errW_none, errW_some] <;> rfl) | (simp [*, errW_none, errW_some] <;> rfl), by first | exact upB HB.out | exact HB.out⟩
        · rw [if_neg c22] at H
          have c22b0 : (a1 == 0) = false := beq_eq_false_iff_ne.mpr c22
          have c22b1 : (a1 != 0) = true := bne_iff_ne.mpr c22
          by_cases c30 : a1 = a3
          · rw [if_pos c30] at H
            have c30b0 : (a1 == a3) = true := beq_iff_eq.mpr c30
            have c30b1 : (a1 != a3) = false := bne_eq_false_iff_eq.mpr c30
            clear c30
            by_cases c31 : (l4.length : Int) = 0
            · rw [if_pos c31] at H
              have c31b0 : ((l4.length : Int) == 0) = true := beq_iff_eq.mpr c31
              have c31b1 : ((l4.length : Int) != 0) = false := bne_eq_false_iff_eq.mpr c31
              clear c31
              obtain rfl := Option.some.inj H
              go_wp2
              go_ret
              exact ⟨by first | rfl | (simp [errW_none, errW_some] <;> rfl) | (simp [*, errW_none, errW_some] <;> rfl), by first | exact upB HB.out | exact HB.out⟩
            · rw [if_neg c31] at H
              have c31b0 : ((l4.length : Int) == 0) = false := beq_eq_false_iff_ne.mpr c31
              have c31b1 : ((l4.length : Int) != 0) = true := bne_iff_ne.mpr c31
              have c31b2 : ¬ (l4 = []) := fun h_ => c31 (by rw [h_]; rfl)
              obtain rfl := Option.some.inj H
              go_wp2
              go_ret
              exact ⟨by first | rfl | (simp [errW_none, errW_some] <;> rfl) | (simp [*, errW_none, errW_some] <;> rfl), by first | exact upB HB.out | exact HB.out⟩
          · rw [if_neg c30] at H
            have c30b0 : (a1 == a3) = false := beq_eq_false_iff_ne.mpr c30
            have c30b1 : (a1 != a3) = true := bne_iff_ne.mpr c30
            replace H := Option.bind_eq_some_iff.mp H
            obtain ⟨t398, A320, H⟩ := H
            replace H : (if (l4.length : Int) = t398 then ((pandectref02_both.f kj5 a3 a1 true a0 l4).bind fun bt399 => (if bt399.1.toList = a0.toList then (some (bt399.2.toList == a2.toList)) else (some false))) else (some false)) = some r := H
            have A32 := Aside0.mk A320
            clear A320
            by_cases c33 : (l4.length : Int) = t398
            · rw [if_pos c33] at H
              have c33b0 : ((l4.length : Int) == t398) = true := beq_iff_eq.mpr c33
              have c33b1 : ((l4.length : Int) != t398) = false := bne_eq_false_iff_eq.mpr c33
              clear c33
              replace H := Option.bind_eq_some_iff.mp H
              obtain ⟨⟨t399, t400⟩, A340, H⟩ := H
              replace H : (if t399.toList = a0.toList then (some (t400.toList == a2.toList)) else (some false)) = some r := H
              have A34 := Aside0.mk A340
              clear A340
              by_cases c35 : t399.toList = a0.toList
              · rw [if_pos c35] at H
                have c35b0 : (t399.toList == a0.toList) = true := beq_iff_eq.mpr c35
                have c35b1 : (t399.toList != a0.toList) = false := bne_eq_false_iff_eq.mpr c35
                clear c35
                obtain rfl := Option.some.inj H
                go_wp2_with (first | ((with_reducible refine gate_callee (f := 46) rfl ?_); refine goesL_ (some 70) rfl rfl Tryd.func46 (by kernel_rfl) rfl #[.int .i64 a3, .int .i64 a1, .bool true] rfl (by (try simp only [List.map_toArray, List.map_cons, List.map_nil]); first | done | rfl | (simp only [List.length_drop, List.length_take]; rfl)) ?_; (with_reducible refine (pandectref02_long.calls kj5 a3 a1 true t398 _ A32.out).mono ?_); rintro e w' ⟨rfl, ⟨nd, rfl⟩⟩; refine ⟨_, rfl, ?_⟩) | ((with_reducible refine gate_callee (f := 47) rfl ?_); refine goesL_ (some 77) rfl rfl Tryd.func47 (by kernel_rfl) rfl #[.int .i64 a3, .int .i64 a1, .bool true, .string a0, .slice A4 l4.length c4] rfl (by (try simp only [List.map_toArray, List.map_cons, List.map_nil]); first | done | rfl | (simp only [List.length_drop, List.length_take]; rfl)) ?_; (with_reducible refine (pandectref02_both.calls kj5 a3 a1 true a0 _ _ l4 t399 t400 _ ?side1 ?side2 A34.out).mono ?_); (case side1 => repeat (first | exact (Kd.C_below HR4.out (by first | exact upB HB.out | exact HB.out)) | (with_reducible refine Kd.C_alloc ?_ _) | (with_reducible refine Kd.C_drewN ?_ _) | (with_reducible refine Kd.C_drew ?_))); (case side2 => exact HC4.out); rintro e w36 ⟨rfl, hb⟩; refine ⟨_, rfl, ?_⟩; have n0_ := Aside0.mk (below_step (by first | exact upB HB.out | exact HB.out) hb); clear HB; have HB := n0_; clear n0_; (try clear hb); (try clear hb2); (try clear hk); (try clear hi)))
                go_ret
                exact ⟨by first | rfl | (simp [errW_none, errW_some] <;> rfl) | (simp [*, errW_none, errW_some] <;> rfl), by first | exact upB HB.out | exact HB.out⟩
              · rw [if_neg c35] at H
                have c35b0 : (t399.toList == a0.toList) = false := beq_eq_false_iff_ne.mpr c35
                have c35b1 : (t399.toList != a0.toList) = true := bne_iff_ne.mpr c35
                obtain rfl := Option.some.inj H
                go_wp2_with (first | ((with_reducible refine gate_callee (f := 46) rfl ?_); refine goesL_ (some 70) rfl rfl Tryd.func46 (by kernel_rfl) rfl #[.int .i64 a3, .int .i64 a1, .bool true] rfl (by (try simp only [List.map_toArray, List.map_cons, List.map_nil]); first | done | rfl | (simp only [List.length_drop, List.length_take]; rfl)) ?_; (with_reducible refine (pandectref02_long.calls kj5 a3 a1 true t398 _ A32.out).mono ?_); rintro e w' ⟨rfl, ⟨nd, rfl⟩⟩; refine ⟨_, rfl, ?_⟩) | ((with_reducible refine gate_callee (f := 47) rfl ?_); refine goesL_ (some 77) rfl rfl Tryd.func47 (by kernel_rfl) rfl #[.int .i64 a3, .int .i64 a1, .bool true, .string a0, .slice A4 l4.length c4] rfl (by (try simp only [List.map_toArray, List.map_cons, List.map_nil]); first | done | rfl | (simp only [List.length_drop, List.length_take]; rfl)) ?_; (with_reducible refine (pandectref02_both.calls kj5 a3 a1 true a0 _ _ l4 t399 t400 _ ?side1 ?side2 A34.out).mono ?_); (case side1 => repeat (first | exact (Kd.C_below HR4.out (by first | exact upB HB.out | exact HB.out)) | (with_reducible refine Kd.C_alloc ?_ _) | (with_reducible refine Kd.C_drewN ?_ _) | (with_reducible refine Kd.C_drew ?_))); (case side2 => exact HC4.out); rintro e w37 ⟨rfl, hb⟩; refine ⟨_, rfl, ?_⟩; have n0_ := Aside0.mk (below_step (by first | exact upB HB.out | exact HB.out) hb); clear HB; have HB := n0_; clear n0_; (try clear hb); (try clear hb2); (try clear hk); (try clear hi)))
                go_ret
                exact ⟨by first | rfl | (simp [errW_none, errW_some] <;> rfl) | (simp [*, errW_none, errW_some] <;> rfl), by first | exact upB HB.out | exact HB.out⟩
            · rw [if_neg c33] at H
              have c33b0 : ((l4.length : Int) == t398) = false := beq_eq_false_iff_ne.mpr c33
              have c33b1 : ((l4.length : Int) != t398) = true := bne_iff_ne.mpr c33
              obtain rfl := Option.some.inj H
              go_wp2_with (first | ((with_reducible refine gate_callee (f := 46) rfl ?_); refine goesL_ (some 70) rfl rfl Tryd.func46 (by kernel_rfl) rfl #[.int .i64 a3, .int .i64 a1, .bool true] rfl (by (try simp only [List.map_toArray, List.map_cons, List.map_nil]); first | done | rfl | (simp only [List.length_drop, List.length_take]; rfl)) ?_; (with_reducible refine (pandectref02_long.calls kj5 a3 a1 true t398 _ A32.out).mono ?_); rintro e w' ⟨rfl, ⟨nd, rfl⟩⟩; refine ⟨_, rfl, ?_⟩))
              go_ret
              exact ⟨by first | rfl | (simp [errW_none, errW_some] <;> rfl) | (simp [*, errW_none, errW_some] <;> rfl), by first | exact upB HB.out | exact HB.out⟩

end Go.Proofs.YteofiiggnegnkaaDoor.P
