import Derived.Test.YteofiiggnegnkaaDoorKPx0
import Derived.Test.YteofiiggnegnkaaDoorKPx1
import Derived.Test.YteofiiggnegnkaaDoorKPx2
import Derived.Test.YteofiiggnegnkaaDoorKPx3
import Derived.Test.YteofiiggnegnkaaDoorKMPx5
import Derived.Test.YteofiiggnegnkaaDoorKMPx6
import Derived.Test.YteofiiggnegnkaaDoorKMPx7
import Derived.Test.YteofiiggnegnkaaDoorKMPx8
import Derived.Test.YteofiiggnegnkaaDoorKD
import Derived.Test.YteofiiggnegnkaaDoorKTb
set_option linter.unusedVariables false
set_option linter.unusedSimpArgs false
-- PRINTED by print.py (a twelfth state) out of the translation. Not trusted: Lean checks it.
namespace Go.Proofs.YteofiiggnegnkaaDoor.P
open Go.RowKit Go.Proofs.YteofiiggnegnkaaDoorW.PrintWords Go.Proofs.YteofiiggnegnkaaDoorW.PrintLast Go.Proofs.YteofiiggnegnkaaDoorW.PrintMore
attribute [local go_sem] max2_int min2_int max_two min_two max_three min_three max_four min_four   -- for this text's walks alone
set_option linter.unusedVariables false
set_option linter.unusedSimpArgs false

/-! ### pandectlaw02_TreeMatchesReference: function 3 -/
mutual
def pandectlaw02_TreeMatchesReference.j0 : Nat → List ByteArray → Int → Int → Int → ByteArray → ByteArray → ByteArray → List ByteArray → Bool → Bool → Option (Bool)
  | 0, _, _, _, _, _, _, _, _, _, _ => none
  | k + 1, x0, x1, x2, x3, x4, x5, x6, x7, x17, x51 => if x51 = true then (some x17) else ((tree_Path.f k x0 x1).bind fun bt404 => ((pandectref02_Path.f k x0 x1).bind fun bt408 => ((tree_Link.f k x0 x2).bind fun bt412 => ((pandectref02_Link.f k x0 x2).bind fun bt416 => ((tree_Root.f k x0).bind fun t420 => ((pandectref02_Root.f k x0).bind fun t421 => (if t420.toList = t421.toList then (if bt404.2 = bt408.2 then ((pandectref01_Same.f k bt404.1 bt408.1).bind fun t422 => (if t422 = true then (if bt412.2 = bt416.2 then ((pandectref01_Same.f k bt412.1 bt416.1).bind fun t423 => (pandectlaw02_TreeMatchesReference.j1 k x0 x1 x2 x3 x4 x5 x6 x7 x17 t423)) else (pandectlaw02_TreeMatchesReference.j1 k x0 x1 x2 x3 x4 x5 x6 x7 x17 false)) else (pandectlaw02_TreeMatchesReference.j1 k x0 x1 x2 x3 x4 x5 x6 x7 x17 false))) else (pandectlaw02_TreeMatchesReference.j1 k x0 x1 x2 x3 x4 x5 x6 x7 x17 false)) else (pandectlaw02_TreeMatchesReference.j1 k x0 x1 x2 x3 x4 x5 x6 x7 x17 false))))))))
def pandectlaw02_TreeMatchesReference.j1 : Nat → List ByteArray → Int → Int → Int → ByteArray → ByteArray → ByteArray → List ByteArray → Bool → Bool → Option (Bool)
  | 0, _, _, _, _, _, _, _, _, _, _ => none
  | k + 1, x0, x1, x2, x3, x4, x5, x6, x7, x17, x26 => (tree_Check.f x4 x3 x1 x6 x7).bind fun t424 => ((pandectref02_Check.f k x4 x3 x1 x6 x7).bind fun t425 => (if (t424 == t425) = true then ((tree_Root.f k x0).bind fun t426 => ((tree_Check.f t426 (x0.length : Int) x1 x6 x7).bind fun t427 => ((pandectref02_Root.f k x0).bind fun t428 => ((pandectref02_Check.f k t428 (x0.length : Int) x1 x6 x7).bind fun t429 => (pandectlaw02_TreeMatchesReference.j2 k x0 x2 x3 x4 x5 x7 x17 x26 (t427 == t429)))))) else (pandectlaw02_TreeMatchesReference.j2 k x0 x2 x3 x4 x5 x7 x17 x26 false)))
def pandectlaw02_TreeMatchesReference.j2 : Nat → List ByteArray → Int → Int → ByteArray → ByteArray → List ByteArray → Bool → Bool → Bool → Option (Bool)
  | 0, _, _, _, _, _, _, _, _, _ => none
  | k + 1, x0, x2, x3, x4, x5, x7, x17, x26, x27 => if x17 = true then (if x26 = true then (if x27 = true then ((tree_Extends.f x5 x2 x4 x3 x7).bind fun t430 => ((pandectref02_Extends.f k x5 x2 x4 x3 x7).bind fun t431 => (if (t430 == t431) = true then ((tree_Root.f k x0).bind fun t432 => ((tree_Extends.f x5 x2 t432 (x0.length : Int) x7).bind fun t433 => ((pandectref02_Root.f k x0).bind fun t434 => ((pandectref02_Extends.f k x5 x2 t434 (x0.length : Int) x7).bind fun t435 => (some (t433 == t435)))))) else (some false)))) else (some false)) else (some false)) else (some false)
end
def pandectlaw02_TreeMatchesReference.f (k : Nat) (l0 : List ByteArray) (a1 : Int) (a2 : Int) (a3 : Int) (a4 : ByteArray) (a5 : ByteArray) (a6 : ByteArray) (l7 : List ByteArray) : Option (Bool) := (pandectlaw02_head.f k).bind fun t401 => ((pandectlaw02_few.f k l0).bind fun t402 => (if t402 = true then ((pandectlaw02_few.f k l7).bind fun t403 => (if t403 = true then (if (a4.size : Int) > 100 then (pandectlaw02_TreeMatchesReference.j0 k l0 a1 a2 a3 a4 a5 a6 l7 t401 true) else (if (a5.size : Int) > 100 then (pandectlaw02_TreeMatchesReference.j0 k l0 a1 a2 a3 a4 a5 a6 l7 t401 true) else (pandectlaw02_TreeMatchesReference.j0 k l0 a1 a2 a3 a4 a5 a6 l7 t401 (decide ((a6.size : Int) > 100))))) else (pandectlaw02_TreeMatchesReference.j0 k l0 a1 a2 a3 a4 a5 a6 l7 t401 true))) else (pandectlaw02_TreeMatchesReference.j0 k l0 a1 a2 a3 a4 a5 a6 l7 t401 true)))
set_option maxHeartbeats 8000000 in
set_option maxRecDepth 100000 in
theorem pandectlaw02_TreeMatchesReference.calls (k : Nat) (A0 : Option Addr) (c0 : Nat) (l0 : List ByteArray) (a1 : Int) (a2 : Int) (a3 : Int) (a4 : ByteArray) (a5 : ByteArray) (a6 : ByteArray) (A7 : Option Addr) (c7 : Nat) (l7 : List ByteArray) (r : Bool) (w : World) (hr0 : Kd.C Kd.string w A0 l0.length l0) (hc0 : l0.length ≤ c0) (hr7 : Kd.C Kd.string w A7 l7.length l7) (hc7 : l7.length ≤ c7) (hT : Tabs w) (h : pandectlaw02_TreeMatchesReference.f k l0 a1 a2 a3 a4 a5 a6 l7 = some r) :
    Calls Tryd.prog 3 #[.slice A0 l0.length c0, .int .i64 a1, .int .i64 a2, .int .i64 a3, .string a4, .string a5, .string a6, .slice A7 l7.length c7] w fun e w' => e = .returned (.bool r) ∧ Below w.heap.size w w' := by
  have HT := Aside0.mk hT
  clear hT
  have HR0 := Aside0.mk hr0
  have HC0 := Aside0.mk hc0
  clear hr0 hc0
  have HR7 := Aside0.mk hr7
  have HC7 := Aside0.mk hc7
  clear hr7 hc7
  have HB := Aside0.mk (Below.refl w.heap.size w)
  have H : ((pandectlaw02_head.f k).bind fun t401 => ((pandectlaw02_few.f k l0).bind fun t402 => (if t402 = true then ((pandectlaw02_few.f k l7).bind fun t403 => (if t403 = true then (if (a4.size : Int) > 100 then (pandectlaw02_TreeMatchesReference.j0 k l0 a1 a2 a3 a4 a5 a6 l7 t401 true) else (if (a5.size : Int) > 100 then (pandectlaw02_TreeMatchesReference.j0 k l0 a1 a2 a3 a4 a5 a6 l7 t401 true) else (pandectlaw02_TreeMatchesReference.j0 k l0 a1 a2 a3 a4 a5 a6 l7 t401 (decide ((a6.size : Int) > 100))))) else (pandectlaw02_TreeMatchesReference.j0 k l0 a1 a2 a3 a4 a5 a6 l7 t401 true))) else (pandectlaw02_TreeMatchesReference.j0 k l0 a1 a2 a3 a4 a5 a6 l7 t401 true)))) = some r := h
  clear h
  replace H := Option.bind_eq_some_iff.mp H
  obtain ⟨t401, A90, H⟩ := H
  replace H : ((pandectlaw02_few.f k l0).bind fun t402 => (if t402 = true then ((pandectlaw02_few.f k l7).bind fun t403 => (if t403 = true then (if (a4.size : Int) > 100 then (pandectlaw02_TreeMatchesReference.j0 k l0 a1 a2 a3 a4 a5 a6 l7 t401 true) else (if (a5.size : Int) > 100 then (pandectlaw02_TreeMatchesReference.j0 k l0 a1 a2 a3 a4 a5 a6 l7 t401 true) else (pandectlaw02_TreeMatchesReference.j0 k l0 a1 a2 a3 a4 a5 a6 l7 t401 (decide ((a6.size : Int) > 100))))) else (pandectlaw02_TreeMatchesReference.j0 k l0 a1 a2 a3 a4 a5 a6 l7 t401 true))) else (pandectlaw02_TreeMatchesReference.j0 k l0 a1 a2 a3 a4 a5 a6 l7 t401 true))) = some r := H
  have A9 := Aside0.mk A90
  clear A90
  have HC10 := Aside0.mk H
  clear H
  go_enter Tryd.func3, Tryd.ntmps3
  go_upto_region 2 with (first | ((with_reducible refine gate_callee (f := 9) rfl ?_); refine goesL_ (some 28) rfl rfl Tryd.func9 (by kernel_rfl) rfl #[] rfl (by (try simp only [List.map_toArray, List.map_cons, List.map_nil]); first | done | rfl | (simp only [List.length_drop, List.length_take]; rfl)) ?_; (with_reducible refine (pandectlaw02_head.calls k  t401 _ ?side1 A9.out).mono ?_); (case side1 => exact tabs_below HT.out (by first | exact upB HB.out | exact HB.out)); rintro e w11 ⟨rfl, hb⟩; refine ⟨_, rfl, ?_⟩; have n0_ := Aside0.mk (below_step (by first | exact upB HB.out | exact HB.out) hb); clear HB; have HB := n0_; clear n0_; (try clear hb); (try clear hb2); (try clear hk); (try clear hi)))
  (try simp only [Act.put, List.setIfInBounds_toArray, List.set_cons_zero, List.set_cons_succ])
  go_cut [51] (fun v51 wc => ∃ (kq : Nat) (x51_9 : Bool), v51 = .bool x51_9 ∧ Aside0 (pandectlaw02_TreeMatchesReference.j0 kq l0 a1 a2 a3 a4 a5 a6 l7 t401 x51_9 = some r) ∧ Aside0 (kq ≤ k) ∧ Aside0 (Below w.heap.size w wc))
  case first =>
    have H := HC10.out
    clear HC10
    replace H := Option.bind_eq_some_iff.mp H
    obtain ⟨t402, A120, H⟩ := H
    replace H : (if t402 = true then ((pandectlaw02_few.f k l7).bind fun t403 => (if t403 = true then (if (a4.size : Int) > 100 then (pandectlaw02_TreeMatchesReference.j0 k l0 a1 a2 a3 a4 a5 a6 l7 t401 true) else (if (a5.size : Int) > 100 then (pandectlaw02_TreeMatchesReference.j0 k l0 a1 a2 a3 a4 a5 a6 l7 t401 true) else (pandectlaw02_TreeMatchesReference.j0 k l0 a1 a2 a3 a4 a5 a6 l7 t401 (decide ((a6.size : Int) > 100))))) else (pandectlaw02_TreeMatchesReference.j0 k l0 a1 a2 a3 a4 a5 a6 l7 t401 true))) else (pandectlaw02_TreeMatchesReference.j0 k l0 a1 a2 a3 a4 a5 a6 l7 t401 true)) = some r := H
    have A12 := Aside0.mk A120
    clear A120
    by_cases c13 : t402 = true
    · subst c13
      have H1 : ((pandectlaw02_few.f k l7).bind fun t403 => (if t403 = true then (if (a4.size : Int) > 100 then (pandectlaw02_TreeMatchesReference.j0 k l0 a1 a2 a3 a4 a5 a6 l7 t401 true) else (if (a5.size : Int) > 100 then (pandectlaw02_TreeMatchesReference.j0 k l0 a1 a2 a3 a4 a5 a6 l7 t401 true) else (pandectlaw02_TreeMatchesReference.j0 k l0 a1 a2 a3 a4 a5 a6 l7 t401 (decide ((a6.size : Int) > 100))))) else (pandectlaw02_TreeMatchesReference.j0 k l0 a1 a2 a3 a4 a5 a6 l7 t401 true))) = some r := by rw [if_pos rfl] at H; exact H
      clear H
      have H := H1
      clear H1
      replace H := Option.bind_eq_some_iff.mp H
      obtain ⟨t403, A140, H⟩ := H
      replace H : (if t403 = true then (if (a4.size : Int) > 100 then (pandectlaw02_TreeMatchesReference.j0 k l0 a1 a2 a3 a4 a5 a6 l7 t401 true) else (if (a5.size : Int) > 100 then (pandectlaw02_TreeMatchesReference.j0 k l0 a1 a2 a3 a4 a5 a6 l7 t401 true) else (pandectlaw02_TreeMatchesReference.j0 k l0 a1 a2 a3 a4 a5 a6 l7 t401 (decide ((a6.size : Int) > 100))))) else (pandectlaw02_TreeMatchesReference.j0 k l0 a1 a2 a3 a4 a5 a6 l7 t401 true)) = some r := H
      have A14 := Aside0.mk A140
      clear A140
      by_cases c15 : t403 = true
      · subst c15
        have H1 : (if (a4.size : Int) > 100 then (pandectlaw02_TreeMatchesReference.j0 k l0 a1 a2 a3 a4 a5 a6 l7 t401 true) else (if (a5.size : Int) > 100 then (pandectlaw02_TreeMatchesReference.j0 k l0 a1 a2 a3 a4 a5 a6 l7 t401 true) else (pandectlaw02_TreeMatchesReference.j0 k l0 a1 a2 a3 a4 a5 a6 l7 t401 (decide ((a6.size : Int) > 100))))) = some r := by rw [if_pos rfl] at H; exact H
        clear H
        have H := H1
        clear H1
        by_cases c16 : (a4.size : Int) > 100
        · rw [if_pos c16] at H
          have c16b0 : decide (100 < (a4.size : Int)) = true := decide_eq_true c16
          have c16b1 : decide (100 < a4.size) = true := decide_eq_true (by omega)
          clear c16
          (first | rw [c16b0] | (simp only [i64_w, i32_w]; rw [c16b0]) | skip)
          have H' := Aside0.mk H
          clear H
          have tk17_ : True := trivial
          have tk18_ : True := trivial
          go_wp2_with (first | ((with_reducible refine gate_callee (f := 10) rfl ?_); clear tk17_; refine goesL_ (some 30) rfl rfl Tryd.func10 (by kernel_rfl) rfl #[.slice A0 l0.length c0] rfl (by (try simp only [List.map_toArray, List.map_cons, List.map_nil]); first | done | rfl | (simp only [List.length_drop, List.length_take]; rfl)) ?_; (with_reducible refine (pandectlaw02_few.calls k _ _ l0 true _ ?side1 ?side2 A12.out).mono ?_); (case side1 => exact upC ((Kd.C_below HR0.out HB.out))); (case side2 => exact HC0.out); rintro e w' ⟨rfl, ⟨nd, rfl⟩⟩; refine ⟨_, rfl, ?_⟩) | (go_at_call 10; clear tk18_; (with_reducible refine (pandectlaw02_few.calls k _ _ l7 true _ ?side1 ?side2 A14.out).mono ?_); (case side1 => repeat (first | exact (Kd.C_below HR7.out (by first | exact upB HB.out | exact HB.out)) | (with_reducible refine Kd.C_alloc ?_ _) | (with_reducible refine Kd.C_drewN ?_ _) | (with_reducible refine Kd.C_drew ?_))); (case side2 => exact HC7.out); rintro e w' ⟨rfl, ⟨nd, rfl⟩⟩))
          go_meet
          case rel => exact ⟨_, (true), (by first | rfl | (simp; done) | (simp [*]; done)), H', ⟨by first | omega | exact Nat.le_refl _⟩, ⟨by first | exact upB HB.out | exact HB.out⟩⟩
        · rw [if_neg c16] at H
          have c16b0 : decide (100 < (a4.size : Int)) = false := decide_eq_false c16
          have c16b1 : decide (100 < a4.size) = false := decide_eq_false (by omega)
          clear c16
          (first | rw [c16b0] | (simp only [i64_w, i32_w]; rw [c16b0]) | skip)
          by_cases c19 : (a5.size : Int) > 100
          · rw [if_pos c19] at H
            have c19b0 : decide (100 < (a5.size : Int)) = true := decide_eq_true c19
            have c19b1 : decide (100 < a5.size) = true := decide_eq_true (by omega)
            clear c19
            have H' := Aside0.mk H
            clear H
            have tk20_ : True := trivial
            have tk21_ : True := trivial
            go_wp2_with (first | ((with_reducible refine gate_callee (f := 10) rfl ?_); clear tk20_; refine goesL_ (some 30) rfl rfl Tryd.func10 (by kernel_rfl) rfl #[.slice A0 l0.length c0] rfl (by (try simp only [List.map_toArray, List.map_cons, List.map_nil]); first | done | rfl | (simp only [List.length_drop, List.length_take]; rfl)) ?_; (with_reducible refine (pandectlaw02_few.calls k _ _ l0 true _ ?side1 ?side2 A12.out).mono ?_); (case side1 => exact upC ((Kd.C_below HR0.out HB.out))); (case side2 => exact HC0.out); rintro e w' ⟨rfl, ⟨nd, rfl⟩⟩; refine ⟨_, rfl, ?_⟩) | (go_at_call 10; clear tk21_; (with_reducible refine (pandectlaw02_few.calls k _ _ l7 true _ ?side1 ?side2 A14.out).mono ?_); (case side1 => repeat (first | exact (Kd.C_below HR7.out (by first | exact upB HB.out | exact HB.out)) | (with_reducible refine Kd.C_alloc ?_ _) | (with_reducible refine Kd.C_drewN ?_ _) | (with_reducible refine Kd.C_drew ?_))); (case side2 => exact HC7.out); rintro e w' ⟨rfl, ⟨nd, rfl⟩⟩))
            go_meet
            case rel => exact ⟨_, (true), (by first | rfl | (simp; done) | (simp [*]; done)), H', ⟨by first | omega | exact Nat.le_refl _⟩, ⟨by first | exact upB HB.out | exact HB.out⟩⟩
          · rw [if_neg c19] at H
            have c19b0 : decide (100 < (a5.size : Int)) = false := decide_eq_false c19
            have c19b1 : decide (100 < a5.size) = false := decide_eq_false (by omega)
            clear c19
            have H' := Aside0.mk H
            clear H
            have tk22_ : True := trivial
            have tk23_ : True := trivial
            go_wp2_with (first | ((with_reducible refine gate_callee (f := 10) rfl ?_); clear tk22_; refine goesL_ (some 30) rfl rfl Tryd.func10 (by kernel_rfl) rfl #[.slice A0 l0.length c0] rfl (by (try simp only [List.map_toArray, List.map_cons, List.map_nil]); first | done | rfl | (simp only [List.length_drop, List.length_take]; rfl)) ?_; (with_reducible refine (pandectlaw02_few.calls k _ _ l0 true _ ?side1 ?side2 A12.out).mono ?_); (case side1 => exact upC ((Kd.C_below HR0.out HB.out))); (case side2 => exact HC0.out); rintro e w' ⟨rfl, ⟨nd, rfl⟩⟩; refine ⟨_, rfl, ?_⟩) | (go_at_call 10; clear tk23_; (with_reducible refine (pandectlaw02_few.calls k _ _ l7 true _ ?side1 ?side2 A14.out).mono ?_); (case side1 => repeat (first | exact (Kd.C_below HR7.out (by first | exact upB HB.out | exact HB.out)) | (with_reducible refine Kd.C_alloc ?_ _) | (with_reducible refine Kd.C_drewN ?_ _) | (with_reducible refine Kd.C_drew ?_))); (case side2 => exact HC7.out); rintro e w' ⟨rfl, ⟨nd, rfl⟩⟩))
            go_meet
            case rel => exact ⟨_, (decide ((a6.size : Int) > 100)), (by first | rfl | (simp; done) | (simp [*]; done)), H', ⟨by first | omega | exact Nat.le_refl _⟩, ⟨by first | exact upB HB.out | exact HB.out⟩⟩
      · replace c15 := Bool.eq_false_iff.mpr c15
        subst c15
        have H1 : (pandectlaw02_TreeMatchesReference.j0 k l0 a1 a2 a3 a4 a5 a6 l7 t401 true) = some r := by rw [if_neg (show ¬ (false = true) by decide)] at H; exact H
        clear H
        have H := H1
        clear H1
        have H' := Aside0.mk H
        clear H
        have tk24_ : True := trivial
        have tk25_ : True := trivial
        go_wp2_with (first | ((with_reducible refine gate_callee (f := 10) rfl ?_); clear tk24_; refine goesL_ (some 30) rfl rfl Tryd.func10 (by kernel_rfl) rfl #[.slice A0 l0.length c0] rfl (by (try simp only [List.map_toArray, List.map_cons, List.map_nil]); first | done | rfl | (simp only [List.length_drop, List.length_take]; rfl)) ?_; (with_reducible refine (pandectlaw02_few.calls k _ _ l0 true _ ?side1 ?side2 A12.out).mono ?_); (case side1 => exact upC ((Kd.C_below HR0.out HB.out))); (case side2 => exact HC0.out); rintro e w' ⟨rfl, ⟨nd, rfl⟩⟩; refine ⟨_, rfl, ?_⟩) | (go_at_call 10; clear tk25_; (with_reducible refine (pandectlaw02_few.calls k _ _ l7 false _ ?side1 ?side2 A14.out).mono ?_); (case side1 => repeat (first | exact (Kd.C_below HR7.out (by first | exact upB HB.out | exact HB.out)) | (with_reducible refine Kd.C_alloc ?_ _) | (with_reducible refine Kd.C_drewN ?_ _) | (with_reducible refine Kd.C_drew ?_))); (case side2 => exact HC7.out); rintro e w' ⟨rfl, ⟨nd, rfl⟩⟩))
        go_meet
        case rel => exact ⟨_, (true), (by first | rfl | (simp; done) | (simp [*]; done)), H', ⟨by first | omega | exact Nat.le_refl _⟩, ⟨by first | exact upB HB.out | exact HB.out⟩⟩
    · replace c13 := Bool.eq_false_iff.mpr c13
      subst c13
      have H1 : (pandectlaw02_TreeMatchesReference.j0 k l0 a1 a2 a3 a4 a5 a6 l7 t401 true) = some r := by rw [if_neg (show ¬ (false = true) by decide)] at H; exact H
      clear H
      have H := H1
      clear H1
      have H' := Aside0.mk H
      clear H
      go_wp2_with (first | ((with_reducible refine gate_callee (f := 10) rfl ?_); refine goesL_ (some 30) rfl rfl Tryd.func10 (by kernel_rfl) rfl #[.slice A0 l0.length c0] rfl (by (try simp only [List.map_toArray, List.map_cons, List.map_nil]); first | done | rfl | (simp only [List.length_drop, List.length_take]; rfl)) ?_; (with_reducible refine (pandectlaw02_few.calls k _ _ l0 false _ ?side1 ?side2 A12.out).mono ?_); (case side1 => exact upC ((Kd.C_below HR0.out HB.out))); (case side2 => exact HC0.out); rintro e w' ⟨rfl, ⟨nd, rfl⟩⟩; refine ⟨_, rfl, ?_⟩))
      go_meet
      case rel => exact ⟨_, (true), (by first | rfl | (simp; done) | (simp [*]; done)), H', ⟨by first | omega | exact Nat.le_refl _⟩, ⟨by first | exact upB HB.out | exact HB.out⟩⟩
  case rest =>
    clear HC10
    try clear c1
    try clear p2
    try clear c3
    try clear c7
    try clear c9
    try clear c10
    try clear c13
    try clear c15
    try clear c16
    try clear c16b0
    try clear c16b1
    try clear c19
    try clear c19b0
    try clear c19b1
    obtain ⟨kq, x51_9, rfl, HA, HJ9, HB⟩ := hcut
    cases kq with
    | zero => exact absurd HA.out (by simp [pandectlaw02_TreeMatchesReference.j0])
    | succ kj9 =>
      have H := HA.out
      clear HA
      simp only [pandectlaw02_TreeMatchesReference.j0] at H
      by_cases c26 : x51_9 = true
      · subst c26
        have H1 : (some t401) = some r := by rw [if_pos rfl] at H; exact H
        clear H
        have H := H1
        clear H1
        obtain rfl := Option.some.inj H
        go_wp2
        go_ret
        exact ⟨by first | rfl | (simp [errW_none, errW_some] <;> rfl) | (simp [*, errW_none, errW_some] <;> rfl), by first | exact upB HB.out | exact HB.out⟩
      · replace c26 := Bool.eq_false_iff.mpr c26
        subst c26
        have H1 : ((tree_Path.f kj9 l0 a1).bind fun bt404 => ((pandectref02_Path.f kj9 l0 a1).bind fun bt408 => ((tree_Link.f kj9 l0 a2).bind fun bt412 => ((pandectref02_Link.f kj9 l0 a2).bind fun bt416 => ((tree_Root.f kj9 l0).bind fun t420 => ((pandectref02_Root.f kj9 l0).bind fun t421 => (if t420.toList = t421.toList then (if bt404.2 = bt408.2 then ((pandectref01_Same.f kj9 bt404.1 bt408.1).bind fun t422 => (if t422 = true then (if bt412.2 = bt416.2 then ((pandectref01_Same.f kj9 bt412.1 bt416.1).bind fun t423 => (pandectlaw02_TreeMatchesReference.j1 kj9 l0 a1 a2 a3 a4 a5 a6 l7 t401 t423)) else (pandectlaw02_TreeMatchesReference.j1 kj9 l0 a1 a2 a3 a4 a5 a6 l7 t401 false)) else (pandectlaw02_TreeMatchesReference.j1 kj9 l0 a1 a2 a3 a4 a5 a6 l7 t401 false))) else (pandectlaw02_TreeMatchesReference.j1 kj9 l0 a1 a2 a3 a4 a5 a6 l7 t401 false)) else (pandectlaw02_TreeMatchesReference.j1 kj9 l0 a1 a2 a3 a4 a5 a6 l7 t401 false)))))))) = some r := by rw [if_neg (show ¬ (false = true) by decide)] at H; exact H
        clear H
        have H := H1
        clear H1
        replace H := Option.bind_eq_some_iff.mp H
        obtain ⟨⟨t404, t407⟩, A270, H⟩ := H
        replace H : ((pandectref02_Path.f kj9 l0 a1).bind fun bt408 => ((tree_Link.f kj9 l0 a2).bind fun bt412 => ((pandectref02_Link.f kj9 l0 a2).bind fun bt416 => ((tree_Root.f kj9 l0).bind fun t420 => ((pandectref02_Root.f kj9 l0).bind fun t421 => (if t420.toList = t421.toList then (if t407 = bt408.2 then ((pandectref01_Same.f kj9 t404 bt408.1).bind fun t422 => (if t422 = true then (if bt412.2 = bt416.2 then ((pandectref01_Same.f kj9 bt412.1 bt416.1).bind fun t423 => (pandectlaw02_TreeMatchesReference.j1 kj9 l0 a1 a2 a3 a4 a5 a6 l7 t401 t423)) else (pandectlaw02_TreeMatchesReference.j1 kj9 l0 a1 a2 a3 a4 a5 a6 l7 t401 false)) else (pandectlaw02_TreeMatchesReference.j1 kj9 l0 a1 a2 a3 a4 a5 a6 l7 t401 false))) else (pandectlaw02_TreeMatchesReference.j1 kj9 l0 a1 a2 a3 a4 a5 a6 l7 t401 false)) else (pandectlaw02_TreeMatchesReference.j1 kj9 l0 a1 a2 a3 a4 a5 a6 l7 t401 false))))))) = some r := H
        have A27 := Aside0.mk A270
        clear A270
        replace H := Option.bind_eq_some_iff.mp H
        obtain ⟨⟨t408, t409⟩, A280, H⟩ := H
        replace H : ((tree_Link.f kj9 l0 a2).bind fun bt412 => ((pandectref02_Link.f kj9 l0 a2).bind fun bt416 => ((tree_Root.f kj9 l0).bind fun t420 => ((pandectref02_Root.f kj9 l0).bind fun t421 => (if t420.toList = t421.toList then (if t407 = t409 then ((pandectref01_Same.f kj9 t404 t408).bind fun t422 => (if t422 = true then (if bt412.2 = bt416.2 then ((pandectref01_Same.f kj9 bt412.1 bt416.1).bind fun t423 => (pandectlaw02_TreeMatchesReference.j1 kj9 l0 a1 a2 a3 a4 a5 a6 l7 t401 t423)) else (pandectlaw02_TreeMatchesReference.j1 kj9 l0 a1 a2 a3 a4 a5 a6 l7 t401 false)) else (pandectlaw02_TreeMatchesReference.j1 kj9 l0 a1 a2 a3 a4 a5 a6 l7 t401 false))) else (pandectlaw02_TreeMatchesReference.j1 kj9 l0 a1 a2 a3 a4 a5 a6 l7 t401 false)) else (pandectlaw02_TreeMatchesReference.j1 kj9 l0 a1 a2 a3 a4 a5 a6 l7 t401 false)))))) = some r := H
        have A28 := Aside0.mk A280
        clear A280
        replace H := Option.bind_eq_some_iff.mp H
        obtain ⟨⟨t412, t415⟩, A290, H⟩ := H
        replace H : ((pandectref02_Link.f kj9 l0 a2).bind fun bt416 => ((tree_Root.f kj9 l0).bind fun t420 => ((pandectref02_Root.f kj9 l0).bind fun t421 => (if t420.toList = t421.toList then (if t407 = t409 then ((pandectref01_Same.f kj9 t404 t408).bind fun t422 => (if t422 = true then (if t415 = bt416.2 then ((pandectref01_Same.f kj9 t412 bt416.1).bind fun t423 => (pandectlaw02_TreeMatchesReference.j1 kj9 l0 a1 a2 a3 a4 a5 a6 l7 t401 t423)) else (pandectlaw02_TreeMatchesReference.j1 kj9 l0 a1 a2 a3 a4 a5 a6 l7 t401 false)) else (pandectlaw02_TreeMatchesReference.j1 kj9 l0 a1 a2 a3 a4 a5 a6 l7 t401 false))) else (pandectlaw02_TreeMatchesReference.j1 kj9 l0 a1 a2 a3 a4 a5 a6 l7 t401 false)) else (pandectlaw02_TreeMatchesReference.j1 kj9 l0 a1 a2 a3 a4 a5 a6 l7 t401 false))))) = some r := H
        have A29 := Aside0.mk A290
        clear A290
        replace H := Option.bind_eq_some_iff.mp H
        obtain ⟨⟨t416, t417⟩, A300, H⟩ := H
        replace H : ((tree_Root.f kj9 l0).bind fun t420 => ((pandectref02_Root.f kj9 l0).bind fun t421 => (if t420.toList = t421.toList then (if t407 = t409 then ((pandectref01_Same.f kj9 t404 t408).bind fun t422 => (if t422 = true then (if t415 = t417 then ((pandectref01_Same.f kj9 t412 t416).bind fun t423 => (pandectlaw02_TreeMatchesReference.j1 kj9 l0 a1 a2 a3 a4 a5 a6 l7 t401 t423)) else (pandectlaw02_TreeMatchesReference.j1 kj9 l0 a1 a2 a3 a4 a5 a6 l7 t401 false)) else (pandectlaw02_TreeMatchesReference.j1 kj9 l0 a1 a2 a3 a4 a5 a6 l7 t401 false))) else (pandectlaw02_TreeMatchesReference.j1 kj9 l0 a1 a2 a3 a4 a5 a6 l7 t401 false)) else (pandectlaw02_TreeMatchesReference.j1 kj9 l0 a1 a2 a3 a4 a5 a6 l7 t401 false)))) = some r := H
        have A30 := Aside0.mk A300
        clear A300
        have HC31 := Aside0.mk H
        clear H
        go_upto_region 8 with (first | ((with_reducible refine gate_callee (f := 11) rfl ?_); refine goesL_ (some 56) rfl rfl Tryd.func11 (by kernel_rfl) rfl #[.slice A0 l0.length c0, .int .i64 a1] rfl (by (try simp only [List.map_toArray, List.map_cons, List.map_nil]); first | done | rfl | (simp only [List.length_drop, List.length_take]; rfl)) ?_; (with_reducible refine (tree_Path.calls kj9 (fun k_ => k_ < w.heap.size) _ _ l0 a1 t404 t407 _ ?side1 ?side2 A27.out).mono ?_); (case side1 => exact Kd.V_mk HC0.out (Kd.F_below (Kd.C_F Kd.heap_string HR0.out) (by first | exact upB HB.out | exact HB.out))); (case side2 => exact tabs_below HT.out (by first | exact upB HB.out | exact HB.out)); rintro e w32 ⟨v405, rfl, ho0, hb⟩; refine ⟨_, rfl, ?_⟩; have n0_ := Aside0.mk (Kd.R_lower (Kd.R_mono (ok' := fun k_ => True) ho0 (fun _ hk_ => trivial)) (below_size (by first | exact upB HB.out | exact HB.out))); have n1_ := Aside0.mk (below_step (by first | exact upB HB.out | exact HB.out) hb); clear HB; have HO406 := n0_; have HB := n1_; clear n0_ n1_; (try clear hb); (try clear hb2); (try clear hk); (try clear hi); (try clear ho0)) | ((with_reducible refine gate_callee (f := 12) rfl ?_); refine goesL_ (some 62) rfl rfl Tryd.func12 (by kernel_rfl) rfl #[.slice A0 l0.length c0, .int .i64 a1] rfl (by (try simp only [List.map_toArray, List.map_cons, List.map_nil]); first | done | rfl | (simp only [List.length_drop, List.length_take]; rfl)) ?_; (with_reducible refine (pandectref02_Path.calls kj9 _ _ l0 a1 t408 t409 _ ?side1 ?side2 A28.out).mono ?_); (case side1 => exact upC ((Kd.C_below HR0.out HB.out))); (case side2 => exact HC0.out); rintro e w33 ⟨v410, rfl, ho0, hb⟩; refine ⟨_, rfl, ?_⟩; have n0_ := Aside0.mk (Kd.R_elder' (by exact upR HO406.out) (Kd.R_base ho0) hb); have n1_ := Aside0.mk (Kd.R_lower (Kd.R_new' ho0 (Kd.R_lt (by exact upR HO406.out))) (below_size (by first | exact upB HB.out | exact HB.out))); have n2_ := Aside0.mk (below_step (by first | exact upB HB.out | exact HB.out) hb); clear HO406; clear HB; have HO406 := n0_; have HO411 := n1_; have HB := n2_; clear n0_ n1_ n2_; (try clear hb); (try clear hb2); (try clear hk); (try clear hi); (try clear ho0)) | ((with_reducible refine gate_callee (f := 13) rfl ?_); refine goesL_ (some 68) rfl rfl Tryd.func13 (by kernel_rfl) rfl #[.slice A0 l0.length c0, .int .i64 a2] rfl (by (try simp only [List.map_toArray, List.map_cons, List.map_nil]); first | done | rfl | (simp only [List.length_drop, List.length_take]; rfl)) ?_; (with_reducible refine (tree_Link.calls kj9 (fun k_ => k_ < w.heap.size) _ _ l0 a2 t412 t415 _ ?side1 ?side2 A29.out).mono ?_); (case side1 => exact Kd.V_mk HC0.out (Kd.F_below (Kd.C_F Kd.heap_string HR0.out) (by first | exact upB HB.out | exact HB.out))); (case side2 => exact tabs_below HT.out (by first | exact upB HB.out | exact HB.out)); rintro e w34 ⟨v413, rfl, ho0, hb⟩; refine ⟨_, rfl, ?_⟩; have n0_ := Aside0.mk (Kd.R_elder' (by exact upR HO406.out) (Kd.R_base ho0) hb); have n1_ := Aside0.mk (Kd.R_elder' (by exact upR HO411.out) (Kd.R_base ho0) hb); have n2_ := Aside0.mk (Kd.R_lower (Kd.R_new' (Kd.R_new' (Kd.R_mono (ok' := fun k_ => True) ho0 (fun _ hk_ => trivial)) (Kd.R_lt (by exact upR HO406.out))) (Kd.R_lt (by exact upR HO411.out))) (below_size (by first | exact upB HB.out | exact HB.out))); have n3_ := Aside0.mk (below_step (by first | exact upB HB.out | exact HB.out) hb); clear HO406; clear HO411; clear HB; have HO406 := n0_; have HO411 := n1_; have HO414 := n2_; have HB := n3_; clear n0_ n1_ n2_ n3_; (try clear hb); (try clear hb2); (try clear hk); (try clear hi); (try clear ho0)) | ((with_reducible refine gate_callee (f := 14) rfl ?_); refine goesL_ (some 74) rfl rfl Tryd.func14 (by kernel_rfl) rfl #[.slice A0 l0.length c0, .int .i64 a2] rfl (by (try simp only [List.map_toArray, List.map_cons, List.map_nil]); first | done | rfl | (simp only [List.length_drop, List.length_take]; rfl)) ?_; (with_reducible refine (pandectref02_Link.calls kj9 _ _ l0 a2 t416 t417 _ ?side1 ?side2 A30.out).mono ?_); (case side1 => exact upC ((Kd.C_below HR0.out HB.out))); (case side2 => exact HC0.out); rintro e w35 ⟨v418, rfl, ho0, hb⟩; refine ⟨_, rfl, ?_⟩; have n0_ := Aside0.mk (Kd.R_elder' (by exact upR HO406.out) (Kd.R_base ho0) hb); have n1_ := Aside0.mk (Kd.R_elder' (by exact upR HO411.out) (Kd.R_base ho0) hb); have n2_ := Aside0.mk (Kd.R_elder' (by exact upR HO414.out) (Kd.R_base ho0) hb); have n3_ := Aside0.mk (Kd.R_lower (Kd.R_new' (Kd.R_new' (Kd.R_new' ho0 (Kd.R_lt (by exact upR HO406.out))) (Kd.R_lt (by exact upR HO411.out))) (Kd.R_lt (by exact upR HO414.out))) (below_size (by first | exact upB HB.out | exact HB.out))); have n4_ := Aside0.mk (below_step (by first | exact upB HB.out | exact HB.out) hb); clear HO406; clear HO411; clear HO414; clear HB; have HO406 := n0_; have HO411 := n1_; have HO414 := n2_; have HO419 := n3_; have HB := n4_; clear n0_ n1_ n2_ n3_ n4_; (try clear hb); (try clear hb2); (try clear hk); (try clear hi); (try clear ho0)))
        (try simp only [Act.put, List.setIfInBounds_toArray, List.set_cons_zero, List.set_cons_succ])
        go_cut [26] (fun v26 wc => ∃ (kq : Nat) (x26_30 : Bool), v26 = .bool x26_30 ∧ Aside0 (pandectlaw02_TreeMatchesReference.j1 kq l0 a1 a2 a3 a4 a5 a6 l7 t401 x26_30 = some r) ∧ Aside0 (kq ≤ kj9) ∧ Aside0 (Below w.heap.size w wc))
        case first =>
          have H := HC31.out
          clear HC31
          replace H := Option.bind_eq_some_iff.mp H
          obtain ⟨t420, A360, H⟩ := H
          replace H : ((pandectref02_Root.f kj9 l0).bind fun t421 => (if t420.toList = t421.toList then (if t407 = t409 then ((pandectref01_Same.f kj9 t404 t408).bind fun t422 => (if t422 = true then (if t415 = t417 then ((pandectref01_Same.f kj9 t412 t416).bind fun t423 => (pandectlaw02_TreeMatchesReference.j1 kj9 l0 a1 a2 a3 a4 a5 a6 l7 t401 t423)) else (pandectlaw02_TreeMatchesReference.j1 kj9 l0 a1 a2 a3 a4 a5 a6 l7 t401 false)) else (pandectlaw02_TreeMatchesReference.j1 kj9 l0 a1 a2 a3 a4 a5 a6 l7 t401 false))) else (pandectlaw02_TreeMatchesReference.j1 kj9 l0 a1 a2 a3 a4 a5 a6 l7 t401 false)) else (pandectlaw02_TreeMatchesReference.j1 kj9 l0 a1 a2 a3 a4 a5 a6 l7 t401 false))) = some r := H
          have A36 := Aside0.mk A360
          clear A360
          replace H := Option.bind_eq_some_iff.mp H
          obtain ⟨t421, A370, H⟩ := H
          replace H : (if t420.toList = t421.toList then (if t407 = t409 then ((pandectref01_Same.f kj9 t404 t408).bind fun t422 => (if t422 = true then (if t415 = t417 then ((pandectref01_Same.f kj9 t412 t416).bind fun t423 => (pandectlaw02_TreeMatchesReference.j1 kj9 l0 a1 a2 a3 a4 a5 a6 l7 t401 t423)) else (pandectlaw02_TreeMatchesReference.j1 kj9 l0 a1 a2 a3 a4 a5 a6 l7 t401 false)) else (pandectlaw02_TreeMatchesReference.j1 kj9 l0 a1 a2 a3 a4 a5 a6 l7 t401 false))) else (pandectlaw02_TreeMatchesReference.j1 kj9 l0 a1 a2 a3 a4 a5 a6 l7 t401 false)) else (pandectlaw02_TreeMatchesReference.j1 kj9 l0 a1 a2 a3 a4 a5 a6 l7 t401 false)) = some r := H
          have A37 := Aside0.mk A370
          clear A370
          by_cases c38 : t420.toList = t421.toList
          · rw [if_pos c38] at H
            have c38b0 : (t420.toList == t421.toList) = true := beq_iff_eq.mpr c38
            have c38b1 : (t420.toList != t421.toList) = false := bne_eq_false_iff_eq.mpr c38
            clear c38
            (first | rw [c38b0] | (simp only [i64_w, i32_w]; rw [c38b0]) | skip)
            by_cases c39 : t407 = t409
            · rw [if_pos c39] at H
              have c39b0 : (t407 == t409) = true := beq_iff_eq.mpr c39
              have c39b1 : (t407 != t409) = false := bne_eq_false_iff_eq.mpr c39
              clear c39
              replace H := Option.bind_eq_some_iff.mp H
              obtain ⟨t422, A400, H⟩ := H
              replace H : (if t422 = true then (if t415 = t417 then ((pandectref01_Same.f kj9 t412 t416).bind fun t423 => (pandectlaw02_TreeMatchesReference.j1 kj9 l0 a1 a2 a3 a4 a5 a6 l7 t401 t423)) else (pandectlaw02_TreeMatchesReference.j1 kj9 l0 a1 a2 a3 a4 a5 a6 l7 t401 false)) else (pandectlaw02_TreeMatchesReference.j1 kj9 l0 a1 a2 a3 a4 a5 a6 l7 t401 false)) = some r := H
              have A40 := Aside0.mk A400
              clear A400
              by_cases c41 : t422 = true
              · subst c41
                have H1 : (if t415 = t417 then ((pandectref01_Same.f kj9 t412 t416).bind fun t423 => (pandectlaw02_TreeMatchesReference.j1 kj9 l0 a1 a2 a3 a4 a5 a6 l7 t401 t423)) else (pandectlaw02_TreeMatchesReference.j1 kj9 l0 a1 a2 a3 a4 a5 a6 l7 t401 false)) = some r := by rw [if_pos rfl] at H; exact H
                clear H
                have H := H1
                clear H1
                by_cases c42 : t415 = t417
                · rw [if_pos c42] at H
                  have c42b0 : (t415 == t417) = true := beq_iff_eq.mpr c42
                  have c42b1 : (t415 != t417) = false := bne_eq_false_iff_eq.mpr c42
                  clear c42
                  replace H := Option.bind_eq_some_iff.mp H
                  obtain ⟨t423, A430, H⟩ := H
                  replace H : (pandectlaw02_TreeMatchesReference.j1 kj9 l0 a1 a2 a3 a4 a5 a6 l7 t401 t423) = some r := H
                  have A43 := Aside0.mk A430
                  clear A430
                  have H' := Aside0.mk H
                  clear H
                  have tk50_ : True := trivial
                  have tk51_ : True := trivial
                  go_wp2_with (first | ((with_reducible refine gate_callee (f := 15) rfl ?_); refine goesL_ (some 78) rfl rfl Tryd.func15 (by kernel_rfl) rfl #[.slice A0 l0.length c0] rfl (by (try simp only [List.map_toArray, List.map_cons, List.map_nil]); first | done | rfl | (simp only [List.length_drop, List.length_take]; rfl)) ?_; (with_reducible refine (tree_Root.calls kj9 _ _ l0 t420 _ ?side1 ?side2 ?side3 A36.out).mono ?_); (case side1 => exact upC ((Kd.C_below HR0.out HB.out))); (case side2 => exact HC0.out); (case side3 => exact tabs_below HT.out (by first | exact upB HB.out | exact HB.out)); rintro e w44 ⟨rfl, hb⟩; refine ⟨_, rfl, ?_⟩; have n0_ := Aside0.mk (Kd.R_below (by exact upR HO406.out) hb); have n1_ := Aside0.mk (Kd.R_below (by exact upR HO411.out) hb); have n2_ := Aside0.mk (Kd.R_below (by exact upR HO414.out) hb); have n3_ := Aside0.mk (Kd.R_below (by exact upR HO419.out) hb); have n4_ := Aside0.mk (below_step (by first | exact upB HB.out | exact HB.out) hb); clear HO406; clear HO411; clear HO414; clear HO419; clear HB; have HO406 := n0_; have HO411 := n1_; have HO414 := n2_; have HO419 := n3_; have HB := n4_; clear n0_ n1_ n2_ n3_ n4_; (try clear hb); (try clear hb2); (try clear hk); (try clear hi)) | ((with_reducible refine gate_callee (f := 16) rfl ?_); refine goesL_ (some 80) rfl rfl Tryd.func16 (by kernel_rfl) rfl #[.slice A0 l0.length c0] rfl (by (try simp only [List.map_toArray, List.map_cons, List.map_nil]); first | done | rfl | (simp only [List.length_drop, List.length_take]; rfl)) ?_; (with_reducible refine (pandectref02_Root.calls kj9 _ _ l0 t421 _ ?side1 ?side2 A37.out).mono ?_); (case side1 => exact upC ((Kd.C_below HR0.out HB.out))); (case side2 => exact HC0.out); rintro e w45 ⟨rfl, hb⟩; refine ⟨_, rfl, ?_⟩; have n0_ := Aside0.mk (Kd.R_below (by exact upR HO406.out) hb); have n1_ := Aside0.mk (Kd.R_below (by exact upR HO411.out) hb); have n2_ := Aside0.mk (Kd.R_below (by exact upR HO414.out) hb); have n3_ := Aside0.mk (Kd.R_below (by exact upR HO419.out) hb); have n4_ := Aside0.mk (below_step (by first | exact upB HB.out | exact HB.out) hb); clear HO406; clear HO411; clear HO414; clear HO419; clear HB; have HO406 := n0_; have HO411 := n1_; have HO414 := n2_; have HO419 := n3_; have HB := n4_; clear n0_ n1_ n2_ n3_ n4_; (try clear hb); (try clear hb2); (try clear hk); (try clear hi); obtain ⟨Ao46, co46, eo46⟩ := Kd.R_slice HO406.out; subst eo46; obtain ⟨Ao47, co47, eo47⟩ := Kd.R_slice HO411.out; subst eo47) | (go_at_call 17; clear tk50_; (with_reducible refine (pandectref01_Same.calls kj9 _ _ t404 _ _ t408 true _ ?side1 ?side2 ?side3 ?side4 A40.out).mono ?_); (case side1 => exact upC ((Kd.R_reads' HO406.out).2.2)); (case side2 => exact (Kd.R_reads' HO406.out).2.1); (case side3 => exact upC ((Kd.R_reads' HO411.out).2.2)); (case side4 => exact (Kd.R_reads' HO411.out).2.1); rintro e w' ⟨rfl, ⟨nd, rfl⟩⟩; obtain ⟨Ao48, co48, eo48⟩ := Kd.R_slice HO414.out; subst eo48; obtain ⟨Ao49, co49, eo49⟩ := Kd.R_slice HO419.out; subst eo49) | (go_at_call 17; clear tk51_; (with_reducible refine (pandectref01_Same.calls kj9 _ _ t412 _ _ t416 t423 _ ?side1 ?side2 ?side3 ?side4 A43.out).mono ?_); (case side1 => exact upC ((Kd.R_reads' HO414.out).2.2)); (case side2 => exact (Kd.R_reads' HO414.out).2.1); (case side3 => exact upC ((Kd.R_reads' HO419.out).2.2)); (case side4 => exact (Kd.R_reads' HO419.out).2.1); rintro e w' ⟨rfl, ⟨nd, rfl⟩⟩))
                  go_meet
                  case rel => exact ⟨_, (t423), (by first | rfl | (simp; done) | (simp [*]; done)), H', ⟨by have := HJ9.out; first | omega | exact Nat.le_refl _⟩, ⟨by first | exact upB HB.out | exact HB.out⟩⟩
                · rw [if_neg c42] at H
                  have c42b0 : (t415 == t417) = false := beq_eq_false_iff_ne.mpr c42
                  have c42b1 : (t415 != t417) = true := bne_iff_ne.mpr c42
                  have H' := Aside0.mk H
                  clear H
                  go_wp2_with (first | ((with_reducible refine gate_callee (f := 15) rfl ?_); refine goesL_ (some 78) rfl rfl Tryd.func15 (by kernel_rfl) rfl #[.slice A0 l0.length c0] rfl (by (try simp only [List.map_toArray, List.map_cons, List.map_nil]); first | done | rfl | (simp only [List.length_drop, List.length_take]; rfl)) ?_; (with_reducible refine (tree_Root.calls kj9 _ _ l0 t420 _ ?side1 ?side2 ?side3 A36.out).mono ?_); (case side1 => exact upC ((Kd.C_below HR0.out HB.out))); (case side2 => exact HC0.out); (case side3 => exact tabs_below HT.out (by first | exact upB HB.out | exact HB.out)); rintro e w52 ⟨rfl, hb⟩; refine ⟨_, rfl, ?_⟩; have n0_ := Aside0.mk (Kd.R_below (by exact upR HO406.out) hb); have n1_ := Aside0.mk (Kd.R_below (by exact upR HO411.out) hb); have n2_ := Aside0.mk (Kd.R_below (by exact upR HO414.out) hb); have n3_ := Aside0.mk (Kd.R_below (by exact upR HO419.out) hb); have n4_ := Aside0.mk (below_step (by first | exact upB HB.out | exact HB.out) hb); clear HO406; clear HO411; clear HO414; clear HO419; clear HB; have HO406 := n0_; have HO411 := n1_; have HO414 := n2_; have HO419 := n3_; have HB := n4_; clear n0_ n1_ n2_ n3_ n4_; (try clear hb); (try clear hb2); (try clear hk); (try clear hi)) | ((with_reducible refine gate_callee (f := 16) rfl ?_); refine goesL_ (some 80) rfl rfl Tryd.func16 (by kernel_rfl) rfl #[.slice A0 l0.length c0] rfl (by (try simp only [List.map_toArray, List.map_cons, List.map_nil]); first | done | rfl | (simp only [List.length_drop, List.length_take]; rfl)) ?_; (with_reducible refine (pandectref02_Root.calls kj9 _ _ l0 t421 _ ?side1 ?side2 A37.out).mono ?_); (case side1 => exact upC ((Kd.C_below HR0.out HB.out))); (case side2 => exact HC0.out); rintro e w53 ⟨rfl, hb⟩; refine ⟨_, rfl, ?_⟩; have n0_ := Aside0.mk (Kd.R_below (by exact upR HO406.out) hb); have n1_ := Aside0.mk (Kd.R_below (by exact upR HO411.out) hb); have n2_ := Aside0.mk (Kd.R_below (by exact upR HO414.out) hb); have n3_ := Aside0.mk (Kd.R_below (by exact upR HO419.out) hb); have n4_ := Aside0.mk (below_step (by first | exact upB HB.out | exact HB.out) hb); clear HO406; clear HO411; clear HO414; clear HO419; clear HB; have HO406 := n0_; have HO411 := n1_; have HO414 := n2_; have HO419 := n3_; have HB := n4_; clear n0_ n1_ n2_ n3_ n4_; (try clear hb); (try clear hb2); (try clear hk); (try clear hi); obtain ⟨Ao54, co54, eo54⟩ := Kd.R_slice HO406.out; subst eo54; obtain ⟨Ao55, co55, eo55⟩ := Kd.R_slice HO411.out; subst eo55) | (go_at_call 17; (with_reducible refine (pandectref01_Same.calls kj9 _ _ t404 _ _ t408 true _ ?side1 ?side2 ?side3 ?side4 A40.out).mono ?_); (case side1 => exact upC ((Kd.R_reads' HO406.out).2.2)); (case side2 => exact (Kd.R_reads' HO406.out).2.1); (case side3 => exact upC ((Kd.R_reads' HO411.out).2.2)); (case side4 => exact (Kd.R_reads' HO411.out).2.1); rintro e w' ⟨rfl, ⟨nd, rfl⟩⟩))
                  go_meet
                  case rel => exact ⟨_, (false), (by first | rfl | (simp; done) | (simp [*]; done)), H', ⟨by have := HJ9.out; first | omega | exact Nat.le_refl _⟩, ⟨by first | exact upB HB.out | exact HB.out⟩⟩
              · replace c41 := Bool.eq_false_iff.mpr c41
                subst c41
                have H1 : (pandectlaw02_TreeMatchesReference.j1 kj9 l0 a1 a2 a3 a4 a5 a6 l7 t401 false) = some r := by rw [if_neg (show ¬ (false = true) by decide)] at H; exact H
                clear H
                have H := H1
                clear H1
                have H' := Aside0.mk H
                clear H
                go_wp2_with (first | ((with_reducible refine gate_callee (f := 15) rfl ?_); refine goesL_ (some 78) rfl rfl Tryd.func15 (by kernel_rfl) rfl #[.slice A0 l0.length c0] rfl (by (try simp only [List.map_toArray, List.map_cons, List.map_nil]); first | done | rfl | (simp only [List.length_drop, List.length_take]; rfl)) ?_; (with_reducible refine (tree_Root.calls kj9 _ _ l0 t420 _ ?side1 ?side2 ?side3 A36.out).mono ?_); (case side1 => exact upC ((Kd.C_below HR0.out HB.out))); (case side2 => exact HC0.out); (case side3 => exact tabs_below HT.out (by first | exact upB HB.out | exact HB.out)); rintro e w56 ⟨rfl, hb⟩; refine ⟨_, rfl, ?_⟩; have n0_ := Aside0.mk (Kd.R_below (by exact upR HO406.out) hb); have n1_ := Aside0.mk (Kd.R_below (by exact upR HO411.out) hb); have n2_ := Aside0.mk (Kd.R_below (by exact upR HO414.out) hb); have n3_ := Aside0.mk (Kd.R_below (by exact upR HO419.out) hb); have n4_ := Aside0.mk (below_step (by first | exact upB HB.out | exact HB.out) hb); clear HO406; clear HO411; clear HO414; clear HO419; clear HB; have HO406 := n0_; have HO411 := n1_; have HO414 := n2_; have HO419 := n3_; have HB := n4_; clear n0_ n1_ n2_ n3_ n4_; (try clear hb); (try clear hb2); (try clear hk); (try clear hi)) | ((with_reducible refine gate_callee (f := 16) rfl ?_); refine goesL_ (some 80) rfl rfl Tryd.func16 (by kernel_rfl) rfl #[.slice A0 l0.length c0] rfl (by (try simp only [List.map_toArray, List.map_cons, List.map_nil]); first | done | rfl | (simp only [List.length_drop, List.length_take]; rfl)) ?_; (with_reducible refine (pandectref02_Root.calls kj9 _ _ l0 t421 _ ?side1 ?side2 A37.out).mono ?_); (case side1 => exact upC ((Kd.C_below HR0.out HB.out))); (case side2 => exact HC0.out); rintro e w57 ⟨rfl, hb⟩; refine ⟨_, rfl, ?_⟩; have n0_ := Aside0.mk (Kd.R_below (by exact upR HO406.out) hb); have n1_ := Aside0.mk (Kd.R_below (by exact upR HO411.out) hb); have n2_ := Aside0.mk (Kd.R_below (by exact upR HO414.out) hb); have n3_ := Aside0.mk (Kd.R_below (by exact upR HO419.out) hb); have n4_ := Aside0.mk (below_step (by first | exact upB HB.out | exact HB.out) hb); clear HO406; clear HO411; clear HO414; clear HO419; clear HB; have HO406 := n0_; have HO411 := n1_; have HO414 := n2_; have HO419 := n3_; have HB := n4_; clear n0_ n1_ n2_ n3_ n4_; (try clear hb); (try clear hb2); (try clear hk); (try clear hi); obtain ⟨Ao58, co58, eo58⟩ := Kd.R_slice HO406.out; subst eo58; obtain ⟨Ao59, co59, eo59⟩ := Kd.R_slice HO411.out; subst eo59) | (go_at_call 17; (with_reducible refine (pandectref01_Same.calls kj9 _ _ t404 _ _ t408 false _ ?side1 ?side2 ?side3 ?side4 A40.out).mono ?_); (case side1 => exact upC ((Kd.R_reads' HO406.out).2.2)); (case side2 => exact (Kd.R_reads' HO406.out).2.1); (case side3 => exact upC ((Kd.R_reads' HO411.out).2.2)); (case side4 => exact (Kd.R_reads' HO411.out).2.1); rintro e w' ⟨rfl, ⟨nd, rfl⟩⟩))
                go_meet
                case rel => exact ⟨_, (false), (by first | rfl | (simp; done) | (simp [*]; done)), H', ⟨by have := HJ9.out; first | omega | exact Nat.le_refl _⟩, ⟨by first | exact upB HB.out | exact HB.out⟩⟩
            · rw [if_neg c39] at H
              have c39b0 : (t407 == t409) = false := beq_eq_false_iff_ne.mpr c39
              have c39b1 : (t407 != t409) = true := bne_iff_ne.mpr c39
              have H' := Aside0.mk H
              clear H
              go_wp2_with (first | ((with_reducible refine gate_callee (f := 15) rfl ?_); refine goesL_ (some 78) rfl rfl Tryd.func15 (by kernel_rfl) rfl #[.slice A0 l0.length c0] rfl (by (try simp only [List.map_toArray, List.map_cons, List.map_nil]); first | done | rfl | (simp only [List.length_drop, List.length_take]; rfl)) ?_; (with_reducible refine (tree_Root.calls kj9 _ _ l0 t420 _ ?side1 ?side2 ?side3 A36.out).mono ?_); (case side1 => exact upC ((Kd.C_below HR0.out HB.out))); (case side2 => exact HC0.out); (case side3 => exact tabs_below HT.out (by first | exact upB HB.out | exact HB.out)); rintro e w60 ⟨rfl, hb⟩; refine ⟨_, rfl, ?_⟩; have n0_ := Aside0.mk (Kd.R_below (by exact upR HO406.out) hb); have n1_ := Aside0.mk (Kd.R_below (by exact upR HO411.out) hb); have n2_ := Aside0.mk (Kd.R_below (by exact upR HO414.out) hb); have n3_ := Aside0.mk (Kd.R_below (by exact upR HO419.out) hb); have n4_ := Aside0.mk (below_step (by first | exact upB HB.out | exact HB.out) hb); clear HO406; clear HO411; clear HO414; clear HO419; clear HB; have HO406 := n0_; have HO411 := n1_; have HO414 := n2_; have HO419 := n3_; have HB := n4_; clear n0_ n1_ n2_ n3_ n4_; (try clear hb); (try clear hb2); (try clear hk); (try clear hi)) | ((with_reducible refine gate_callee (f := 16) rfl ?_); refine goesL_ (some 80) rfl rfl Tryd.func16 (by kernel_rfl) rfl #[.slice A0 l0.length c0] rfl (by (try simp only [List.map_toArray, List.map_cons, List.map_nil]); first | done | rfl | (simp only [List.length_drop, List.length_take]; rfl)) ?_; (with_reducible refine (pandectref02_Root.calls kj9 _ _ l0 t421 _ ?side1 ?side2 A37.out).mono ?_); (case side1 => exact upC ((Kd.C_below HR0.out HB.out))); (case side2 => exact HC0.out); rintro e w61 ⟨rfl, hb⟩; refine ⟨_, rfl, ?_⟩; have n0_ := Aside0.mk (Kd.R_below (by exact upR HO406.out) hb); have n1_ := Aside0.mk (Kd.R_below (by exact upR HO411.out) hb); have n2_ := Aside0.mk (Kd.R_below (by exact upR HO414.out) hb); have n3_ := Aside0.mk (Kd.R_below (by exact upR HO419.out) hb); have n4_ := Aside0.mk (below_step (by first | exact upB HB.out | exact HB.out) hb); clear HO406; clear HO411; clear HO414; clear HO419; clear HB; have HO406 := n0_; have HO411 := n1_; have HO414 := n2_; have HO419 := n3_; have HB := n4_; clear n0_ n1_ n2_ n3_ n4_; (try clear hb); (try clear hb2); (try clear hk); (try clear hi)))
              go_meet
              case rel => exact ⟨_, (false), (by first | rfl | (simp; done) | (simp [*]; done)), H', ⟨by have := HJ9.out; first | omega | exact Nat.le_refl _⟩, ⟨by first | exact upB HB.out | exact HB.out⟩⟩
          · rw [if_neg c38] at H
            have c38b0 : (t420.toList == t421.toList) = false := beq_eq_false_iff_ne.mpr c38
            have c38b1 : (t420.toList != t421.toList) = true := bne_iff_ne.mpr c38
            (first | rw [c38b0] | (simp only [i64_w, i32_w]; rw [c38b0]) | skip)
            have H' := Aside0.mk H
            clear H
            go_wp2_with (first | ((with_reducible refine gate_callee (f := 15) rfl ?_); refine goesL_ (some 78) rfl rfl Tryd.func15 (by kernel_rfl) rfl #[.slice A0 l0.length c0] rfl (by (try simp only [List.map_toArray, List.map_cons, List.map_nil]); first | done | rfl | (simp only [List.length_drop, List.length_take]; rfl)) ?_; (with_reducible refine (tree_Root.calls kj9 _ _ l0 t420 _ ?side1 ?side2 ?side3 A36.out).mono ?_); (case side1 => exact upC ((Kd.C_below HR0.out HB.out))); (case side2 => exact HC0.out); (case side3 => exact tabs_below HT.out (by first | exact upB HB.out | exact HB.out)); rintro e w62 ⟨rfl, hb⟩; refine ⟨_, rfl, ?_⟩; have n0_ := Aside0.mk (Kd.R_below (by exact upR HO406.out) hb); have n1_ := Aside0.mk (Kd.R_below (by exact upR HO411.out) hb); have n2_ := Aside0.mk (Kd.R_below (by exact upR HO414.out) hb); have n3_ := Aside0.mk (Kd.R_below (by exact upR HO419.out) hb); have n4_ := Aside0.mk (below_step (by first | exact upB HB.out | exact HB.out) hb); clear HO406; clear HO411; clear HO414; clear HO419; clear HB; have HO406 := n0_; have HO411 := n1_; have HO414 := n2_; have HO419 := n3_; have HB := n4_; clear n0_ n1_ n2_ n3_ n4_; (try clear hb); (try clear hb2); (try clear hk); (try clear hi)) | ((with_reducible refine gate_callee (f := 16) rfl ?_); refine goesL_ (some 80) rfl rfl Tryd.func16 (by kernel_rfl) rfl #[.slice A0 l0.length c0] rfl (by (try simp only [List.map_toArray, List.map_cons, List.map_nil]); first | done | rfl | (simp only [List.length_drop, List.length_take]; rfl)) ?_; (with_reducible refine (pandectref02_Root.calls kj9 _ _ l0 t421 _ ?side1 ?side2 A37.out).mono ?_); (case side1 => exact upC ((Kd.C_below HR0.out HB.out))); (case side2 => exact HC0.out); rintro e w63 ⟨rfl, hb⟩; refine ⟨_, rfl, ?_⟩; have n0_ := Aside0.mk (Kd.R_below (by exact upR HO406.out) hb); have n1_ := Aside0.mk (Kd.R_below (by exact upR HO411.out) hb); have n2_ := Aside0.mk (Kd.R_below (by exact upR HO414.out) hb); have n3_ := Aside0.mk (Kd.R_below (by exact upR HO419.out) hb); have n4_ := Aside0.mk (below_step (by first | exact upB HB.out | exact HB.out) hb); clear HO406; clear HO411; clear HO414; clear HO419; clear HB; have HO406 := n0_; have HO411 := n1_; have HO414 := n2_; have HO419 := n3_; have HB := n4_; clear n0_ n1_ n2_ n3_ n4_; (try clear hb); (try clear hb2); (try clear hk); (try clear hi)))
            go_meet
            case rel => exact ⟨_, (false), (by first | rfl | (simp; done) | (simp [*]; done)), H', ⟨by have := HJ9.out; first | omega | exact Nat.le_refl _⟩, ⟨by first | exact upB HB.out | exact HB.out⟩⟩
        case rest =>
          clear HC31
          try clear c1
          try clear c2
          try clear p2
          try clear c3
          try clear c4
          try clear c7
          try clear c9
          try clear c10
          try clear c11
          try clear c12
          try clear c13
          try clear c14
          try clear c15
          try clear c16
          try clear c16b0
          try clear c16b1
          try clear c19
          try clear c19b0
          try clear c19b1
          try clear c26
          try clear c38
          try clear c38b0
          try clear c38b1
          try clear c39
          try clear c39b0
          try clear c39b1
          try clear c41
          try clear c42
          try clear c42b0
          try clear c42b1
          try clear p2
          obtain ⟨kq, x26_30, rfl, HA, HJ30, HB⟩ := hcut
          cases kq with
          | zero => exact absurd HA.out (by simp [pandectlaw02_TreeMatchesReference.j1])
          | succ kj30 =>
            have H := HA.out
            clear HA
            simp only [pandectlaw02_TreeMatchesReference.j1] at H
            have HC64 := Aside0.mk H
            clear H
            go_upto_region 9 with (fail)
            go_cut [27] (fun v27 wc => ∃ (kq : Nat) (x27_63 : Bool), v27 = .bool x27_63 ∧ Aside0 (pandectlaw02_TreeMatchesReference.j2 kq l0 a2 a3 a4 a5 l7 t401 x26_30 x27_63 = some r) ∧ Aside0 (kq ≤ kj30) ∧ Aside0 (Below w.heap.size w wc))
            case first =>
              have H := HC64.out
              clear HC64
              replace H := Option.bind_eq_some_iff.mp H
              obtain ⟨t424, A650, H⟩ := H
              replace H : ((pandectref02_Check.f kj30 a4 a3 a1 a6 l7).bind fun t425 => (if (t424 == t425) = true then ((tree_Root.f kj30 l0).bind fun t426 => ((tree_Check.f t426 (l0.length : Int) a1 a6 l7).bind fun t427 => ((pandectref02_Root.f kj30 l0).bind fun t428 => ((pandectref02_Check.f kj30 t428 (l0.length : Int) a1 a6 l7).bind fun t429 => (pandectlaw02_TreeMatchesReference.j2 kj30 l0 a2 a3 a4 a5 l7 t401 x26_30 (t427 == t429)))))) else (pandectlaw02_TreeMatchesReference.j2 kj30 l0 a2 a3 a4 a5 l7 t401 x26_30 false))) = some r := H
              have A65 := Aside0.mk A650
              clear A650
              replace H := Option.bind_eq_some_iff.mp H
              obtain ⟨t425, A660, H⟩ := H
              replace H : (if (t424 == t425) = true then ((tree_Root.f kj30 l0).bind fun t426 => ((tree_Check.f t426 (l0.length : Int) a1 a6 l7).bind fun t427 => ((pandectref02_Root.f kj30 l0).bind fun t428 => ((pandectref02_Check.f kj30 t428 (l0.length : Int) a1 a6 l7).bind fun t429 => (pandectlaw02_TreeMatchesReference.j2 kj30 l0 a2 a3 a4 a5 l7 t401 x26_30 (t427 == t429)))))) else (pandectlaw02_TreeMatchesReference.j2 kj30 l0 a2 a3 a4 a5 l7 t401 x26_30 false)) = some r := H
              have A66 := Aside0.mk A660
              clear A660
              by_cases c67 : (t424 == t425) = true
              · rw [if_pos c67] at H
                have c67b0 : (t424 == t425) = true := c67
                (try (have c67b1 : decide (t424 = t425) = true := by simpa using c67))
                (try (have c67b2 : (t424 == t425) = true := by simpa using c67))
                clear c67
                (first | rw [c67b0] | (simp only [i64_w, i32_w]; rw [c67b0]) | skip)
                replace H := Option.bind_eq_some_iff.mp H
                obtain ⟨t426, A680, H⟩ := H
                replace H : ((tree_Check.f t426 (l0.length : Int) a1 a6 l7).bind fun t427 => ((pandectref02_Root.f kj30 l0).bind fun t428 => ((pandectref02_Check.f kj30 t428 (l0.length : Int) a1 a6 l7).bind fun t429 => (pandectlaw02_TreeMatchesReference.j2 kj30 l0 a2 a3 a4 a5 l7 t401 x26_30 (t427 == t429))))) = some r := H
                have A68 := Aside0.mk A680
                clear A680
                replace H := Option.bind_eq_some_iff.mp H
                obtain ⟨t427, A690, H⟩ := H
                replace H : ((pandectref02_Root.f kj30 l0).bind fun t428 => ((pandectref02_Check.f kj30 t428 (l0.length : Int) a1 a6 l7).bind fun t429 => (pandectlaw02_TreeMatchesReference.j2 kj30 l0 a2 a3 a4 a5 l7 t401 x26_30 (t427 == t429)))) = some r := H
                have A69 := Aside0.mk A690
                clear A690
                replace H := Option.bind_eq_some_iff.mp H
                obtain ⟨t428, A700, H⟩ := H
                replace H : ((pandectref02_Check.f kj30 t428 (l0.length : Int) a1 a6 l7).bind fun t429 => (pandectlaw02_TreeMatchesReference.j2 kj30 l0 a2 a3 a4 a5 l7 t401 x26_30 (t427 == t429))) = some r := H
                have A70 := Aside0.mk A700
                clear A700
                replace H := Option.bind_eq_some_iff.mp H
                obtain ⟨t429, A710, H⟩ := H
                replace H : (pandectlaw02_TreeMatchesReference.j2 kj30 l0 a2 a3 a4 a5 l7 t401 x26_30 (t427 == t429)) = some r := H
                have A71 := Aside0.mk A710
                clear A710
                have H' := Aside0.mk H
                clear H
                have tk78_ : True := trivial
                have tk79_ : True := trivial
                have tk80_ : True := trivial
                have tk81_ : True := trivial
                go_wp2_with (first | ((with_reducible refine gate_callee (f := 18) rfl ?_); clear tk78_; refine goesL_ (some 107) rfl rfl Tryd.func18 (by kernel_rfl) rfl #[.string a4, .int .i64 a3, .int .i64 a1, .string a6, .slice A7 l7.length c7] rfl (by (try simp only [List.map_toArray, List.map_cons, List.map_nil]); first | done | rfl | (simp only [List.length_drop, List.length_take]; rfl)) ?_; (with_reducible refine (tree_Check.calls a4 a3 a1 a6 _ _ l7 t424 _ ?side1 ?side2 ?side3 A65.out).mono ?_); (case side1 => exact upC ((Kd.C_below HR7.out HB.out))); (case side2 => exact HC7.out); (case side3 => exact tabs_below HT.out (by first | exact upB HB.out | exact HB.out)); rintro e w72 ⟨rfl, hb⟩; refine ⟨_, rfl, ?_⟩; have n0_ := Aside0.mk (below_step (by first | exact upB HB.out | exact HB.out) hb); clear HB; have HB := n0_; clear n0_; (try clear hb); (try clear hb2); (try clear hk); (try clear hi)) | ((with_reducible refine gate_callee (f := 19) rfl ?_); clear tk79_; refine goesL_ (some 113) rfl rfl Tryd.func19 (by kernel_rfl) rfl #[.string a4, .int .i64 a3, .int .i64 a1, .string a6, .slice A7 l7.length c7] rfl (by (try simp only [List.map_toArray, List.map_cons, List.map_nil]); first | done | rfl | (simp only [List.length_drop, List.length_take]; rfl)) ?_; (with_reducible refine (pandectref02_Check.calls kj30 a4 a3 a1 a6 _ _ l7 t425 _ ?side1 ?side2 A66.out).mono ?_); (case side1 => exact upC ((Kd.C_below HR7.out HB.out))); (case side2 => exact HC7.out); rintro e w73 ⟨rfl, hb⟩; refine ⟨_, rfl, ?_⟩; have n0_ := Aside0.mk (below_step (by first | exact upB HB.out | exact HB.out) hb); clear HB; have HB := n0_; clear n0_; (try clear hb); (try clear hb2); (try clear hk); (try clear hi)) | (go_at_call 15; (with_reducible refine (tree_Root.calls kj30 _ _ l0 t426 _ ?side1 ?side2 ?side3 A68.out).mono ?_); (case side1 => exact upC ((Kd.C_below HR0.out HB.out))); (case side2 => exact HC0.out); (case side3 => exact tabs_below HT.out (by first | exact upB HB.out | exact HB.out)); rintro e w74 ⟨rfl, hb⟩; have n0_ := Aside0.mk (below_step (by first | exact upB HB.out | exact HB.out) hb); clear HB; have HB := n0_; clear n0_; (try clear hb); (try clear hb2); (try clear hk); (try clear hi)) | (go_at_call 18; clear tk80_; (with_reducible refine (tree_Check.calls t426 (l0.length : Int) a1 a6 _ _ l7 t427 _ ?side1 ?side2 ?side3 A69.out).mono ?_); (case side1 => exact upC ((Kd.C_below HR7.out HB.out))); (case side2 => exact HC7.out); (case side3 => exact tabs_below HT.out (by first | exact upB HB.out | exact HB.out)); rintro e w75 ⟨rfl, hb⟩; have n0_ := Aside0.mk (below_step (by first | exact upB HB.out | exact HB.out) hb); clear HB; have HB := n0_; clear n0_; (try clear hb); (try clear hb2); (try clear hk); (try clear hi)) | (go_at_call 16; (with_reducible refine (pandectref02_Root.calls kj30 _ _ l0 t428 _ ?side1 ?side2 A70.out).mono ?_); (case side1 => exact upC ((Kd.C_below HR0.out HB.out))); (case side2 => exact HC0.out); rintro e w76 ⟨rfl, hb⟩; have n0_ := Aside0.mk (below_step (by first | exact upB HB.out | exact HB.out) hb); clear HB; have HB := n0_; clear n0_; (try clear hb); (try clear hb2); (try clear hk); (try clear hi)) | (go_at_call 19; clear tk81_; (with_reducible refine (pandectref02_Check.calls kj30 t428 (l0.length : Int) a1 a6 _ _ l7 t429 _ ?side1 ?side2 A71.out).mono ?_); (case side1 => exact upC ((Kd.C_below HR7.out HB.out))); (case side2 => exact HC7.out); rintro e w77 ⟨rfl, hb⟩; have n0_ := Aside0.mk (below_step (by first | exact upB HB.out | exact HB.out) hb); clear HB; have HB := n0_; clear n0_; (try clear hb); (try clear hb2); (try clear hk); (try clear hi)))
                go_meet
                case rel => exact ⟨_, ((t427 == t429)), (by first | rfl | (simp; done) | (simp [*]; done)), H', ⟨by have := HJ9.out; have := HJ30.out; first | omega | exact Nat.le_refl _⟩, ⟨by first | exact upB HB.out | exact HB.out⟩⟩
              · rw [if_neg c67] at H
                have c67b0 : (t424 == t425) = false := by simpa using c67
                (try (have c67b1 : decide (t424 = t425) = false := by simpa using c67))
                (try (have c67b2 : (t424 == t425) = false := by simpa using c67))
                (try (have c67b3 : ¬ (t424 = t425) := by simpa using c67))
                clear c67
                (first | rw [c67b0] | (simp only [i64_w, i32_w]; rw [c67b0]) | skip)
                have H' := Aside0.mk H
                clear H
                go_wp2_with (first | ((with_reducible refine gate_callee (f := 18) rfl ?_); refine goesL_ (some 107) rfl rfl Tryd.func18 (by kernel_rfl) rfl #[.string a4, .int .i64 a3, .int .i64 a1, .string a6, .slice A7 l7.length c7] rfl (by (try simp only [List.map_toArray, List.map_cons, List.map_nil]); first | done | rfl | (simp only [List.length_drop, List.length_take]; rfl)) ?_; (with_reducible refine (tree_Check.calls a4 a3 a1 a6 _ _ l7 t424 _ ?side1 ?side2 ?side3 A65.out).mono ?_); (case side1 => exact upC ((Kd.C_below HR7.out HB.out))); (case side2 => exact HC7.out); (case side3 => exact tabs_below HT.out (by first | exact upB HB.out | exact HB.out)); rintro e w82 ⟨rfl, hb⟩; refine ⟨_, rfl, ?_⟩; have n0_ := Aside0.mk (below_step (by first | exact upB HB.out | exact HB.out) hb); clear HB; have HB := n0_; clear n0_; (try clear hb); (try clear hb2); (try clear hk); (try clear hi)) | ((with_reducible refine gate_callee (f := 19) rfl ?_); refine goesL_ (some 113) rfl rfl Tryd.func19 (by kernel_rfl) rfl #[.string a4, .int .i64 a3, .int .i64 a1, .string a6, .slice A7 l7.length c7] rfl (by (try simp only [List.map_toArray, List.map_cons, List.map_nil]); first | done | rfl | (simp only [List.length_drop, List.length_take]; rfl)) ?_; (with_reducible refine (pandectref02_Check.calls kj30 a4 a3 a1 a6 _ _ l7 t425 _ ?side1 ?side2 A66.out).mono ?_); (case side1 => exact upC ((Kd.C_below HR7.out HB.out))); (case side2 => exact HC7.out); rintro e w83 ⟨rfl, hb⟩; refine ⟨_, rfl, ?_⟩; have n0_ := Aside0.mk (below_step (by first | exact upB HB.out | exact HB.out) hb); clear HB; have HB := n0_; clear n0_; (try clear hb); (try clear hb2); (try clear hk); (try clear hi)))
                go_meet
                case rel => exact ⟨_, (false), (by first | rfl | (simp; done) | (simp [*]; done)), H', ⟨by have := HJ9.out; have := HJ30.out; first | omega | exact Nat.le_refl _⟩, ⟨by first | exact upB HB.out | exact HB.out⟩⟩
            case rest =>
              clear HC64
              try clear c1
              try clear c2
              try clear p2
              try clear c3
              try clear c4
              try clear c6
              try clear c7
              try clear c9
              try clear c10
              try clear c11
              try clear c12
              try clear c13
              try clear c14
              try clear c15
              try clear c16
              try clear c16b0
              try clear c16b1
              try clear c18
              try clear c19
              try clear c19b0
              try clear c19b1
              try clear c26
              try clear c38
              try clear c38b0
              try clear c38b1
              try clear c39
              try clear c39b0
              try clear c39b1
              try clear c41
              try clear c42
              try clear c42b0
              try clear c42b1
              try clear c67
              try clear c67b0
              try clear c67b1
              try clear c67b2
              try clear p2
              obtain ⟨kq, x27_63, rfl, HA, HJ63, HB⟩ := hcut
              cases kq with
              | zero => exact absurd HA.out (by simp [pandectlaw02_TreeMatchesReference.j2])
              | succ kj63 =>
                have H := HA.out
                clear HA
                simp only [pandectlaw02_TreeMatchesReference.j2] at H
                by_cases c84 : t401 = true
                · subst c84
                  have H1 : (if x26_30 = true then (if x27_63 = true then ((tree_Extends.f a5 a2 a4 a3 l7).bind fun t430 => ((pandectref02_Extends.f kj63 a5 a2 a4 a3 l7).bind fun t431 => (if (t430 == t431) = true then ((tree_Root.f kj63 l0).bind fun t432 => ((tree_Extends.f a5 a2 t432 (l0.length : Int) l7).bind fun t433 => ((pandectref02_Root.f kj63 l0).bind fun t434 => ((pandectref02_Extends.f kj63 a5 a2 t434 (l0.length : Int) l7).bind fun t435 => (some (t433 == t435)))))) else (some false)))) else (some false)) else (some false)) = some r := by rw [if_pos rfl] at H; exact H
                  clear H
                  have H := H1
                  clear H1
                  by_cases c85 : x26_30 = true
                  · subst c85
                    have H1 : (if x27_63 = true then ((tree_Extends.f a5 a2 a4 a3 l7).bind fun t430 => ((pandectref02_Extends.f kj63 a5 a2 a4 a3 l7).bind fun t431 => (if (t430 == t431) = true then ((tree_Root.f kj63 l0).bind fun t432 => ((tree_Extends.f a5 a2 t432 (l0.length : Int) l7).bind fun t433 => ((pandectref02_Root.f kj63 l0).bind fun t434 => ((pandectref02_Extends.f kj63 a5 a2 t434 (l0.length : Int) l7).bind fun t435 => (some (t433 == t435)))))) else (some false)))) else (some false)) = some r := by rw [if_pos rfl] at H; exact H
                    clear H
                    have H := H1
                    clear H1
                    by_cases c86 : x27_63 = true
                    · subst c86
                      have H1 : ((tree_Extends.f a5 a2 a4 a3 l7).bind fun t430 => ((pandectref02_Extends.f kj63 a5 a2 a4 a3 l7).bind fun t431 => (if (t430 == t431) = true then ((tree_Root.f kj63 l0).bind fun t432 => ((tree_Extends.f a5 a2 t432 (l0.length : Int) l7).bind fun t433 => ((pandectref02_Root.f kj63 l0).bind fun t434 => ((pandectref02_Extends.f kj63 a5 a2 t434 (l0.length : Int) l7).bind fun t435 => (some (t433 == t435)))))) else (some false)))) = some r := by rw [if_pos rfl] at H; exact H
                      clear H
                      have H := H1
                      clear H1
                      replace H := Option.bind_eq_some_iff.mp H
                      obtain ⟨t430, A870, H⟩ := H
                      replace H : ((pandectref02_Extends.f kj63 a5 a2 a4 a3 l7).bind fun t431 => (if (t430 == t431) = true then ((tree_Root.f kj63 l0).bind fun t432 => ((tree_Extends.f a5 a2 t432 (l0.length : Int) l7).bind fun t433 => ((pandectref02_Root.f kj63 l0).bind fun t434 => ((pandectref02_Extends.f kj63 a5 a2 t434 (l0.length : Int) l7).bind fun t435 => (some (t433 == t435)))))) else (some false))) = some r := H
                      have A87 := Aside0.mk A870
                      clear A870
                      replace H := Option.bind_eq_some_iff.mp H
                      obtain ⟨t431, A880, H⟩ := H
                      replace H : (if (t430 == t431) = true then ((tree_Root.f kj63 l0).bind fun t432 => ((tree_Extends.f a5 a2 t432 (l0.length : Int) l7).bind fun t433 => ((pandectref02_Root.f kj63 l0).bind fun t434 => ((pandectref02_Extends.f kj63 a5 a2 t434 (l0.length : Int) l7).bind fun t435 => (some (t433 == t435)))))) else (some false)) = some r := H
                      have A88 := Aside0.mk A880
                      clear A880
                      by_cases c89 : (t430 == t431) = true
                      · rw [if_pos c89] at H
                        have c89b0 : (t430 == t431) = true := c89
                        (try (have c89b1 : decide (t430 = t431) = true := by simpa using c89))
                        (try (have c89b2 : (t430 == t431) = true := by simpa using c89))
                        clear c89
                        replace H := Option.bind_eq_some_iff.mp H
                        obtain ⟨t432, A900, H⟩ := H
                        replace H : ((tree_Extends.f a5 a2 t432 (l0.length : Int) l7).bind fun t433 => ((pandectref02_Root.f kj63 l0).bind fun t434 => ((pandectref02_Extends.f kj63 a5 a2 t434 (l0.length : Int) l7).bind fun t435 => (some (t433 == t435))))) = some r := H
                        have A90 := Aside0.mk A900
                        clear A900
                        replace H := Option.bind_eq_some_iff.mp H
                        obtain ⟨t433, A910, H⟩ := H
                        replace H : ((pandectref02_Root.f kj63 l0).bind fun t434 => ((pandectref02_Extends.f kj63 a5 a2 t434 (l0.length : Int) l7).bind fun t435 => (some (t433 == t435)))) = some r := H
                        have A91 := Aside0.mk A910
                        clear A910
                        replace H := Option.bind_eq_some_iff.mp H
                        obtain ⟨t434, A920, H⟩ := H
                        replace H : ((pandectref02_Extends.f kj63 a5 a2 t434 (l0.length : Int) l7).bind fun t435 => (some (t433 == t435))) = some r := H
                        have A92 := Aside0.mk A920
                        clear A920
                        replace H := Option.bind_eq_some_iff.mp H
                        obtain ⟨t435, A930, H⟩ := H
                        replace H : (some (t433 == t435)) = some r := H
                        have A93 := Aside0.mk A930
                        clear A930
                        obtain rfl := Option.some.inj H
                        have tk100_ : True := trivial
                        have tk101_ : True := trivial
                        have tk102_ : True := trivial
                        have tk103_ : True := trivial
                        go_wp2_with (first | (go_at_call 20; clear tk100_; (with_reducible refine (tree_Extends.calls a5 a2 a4 a3 _ _ l7 t430 _ ?side1 ?side2 ?side3 A87.out).mono ?_); (case side1 => exact upC ((Kd.C_below HR7.out HB.out))); (case side2 => exact HC7.out); (case side3 => exact tabs_below HT.out (by first | exact upB HB.out | exact HB.out)); rintro e w94 ⟨rfl, hb⟩; have n0_ := Aside0.mk (below_step (by first | exact upB HB.out | exact HB.out) hb); clear HB; have HB := n0_; clear n0_; (try clear hb); (try clear hb2); (try clear hk); (try clear hi)) | (go_at_call 21; clear tk101_; (with_reducible refine (pandectref02_Extends.calls kj63 a5 a2 a4 a3 _ _ l7 t431 _ ?side1 ?side2 A88.out).mono ?_); (case side1 => exact upC ((Kd.C_below HR7.out HB.out))); (case side2 => exact HC7.out); rintro e w95 ⟨rfl, hb⟩; have n0_ := Aside0.mk (below_step (by first | exact upB HB.out | exact HB.out) hb); clear HB; have HB := n0_; clear n0_; (try clear hb); (try clear hb2); (try clear hk); (try clear hi)) | (go_at_call 15; (with_reducible refine (tree_Root.calls kj63 _ _ l0 t432 _ ?side1 ?side2 ?side3 A90.out).mono ?_); (case side1 => exact upC ((Kd.C_below HR0.out HB.out))); (case side2 => exact HC0.out); (case side3 => exact tabs_below HT.out (by first | exact upB HB.out | exact HB.out)); rintro e w96 ⟨rfl, hb⟩; have n0_ := Aside0.mk (below_step (by first | exact upB HB.out | exact HB.out) hb); clear HB; have HB := n0_; clear n0_; (try clear hb); (try clear hb2); (try clear hk); (try clear hi)) | (go_at_call 20; clear tk102_; (with_reducible refine (tree_Extends.calls a5 a2 t432 (l0.length : Int) _ _ l7 t433 _ ?side1 ?side2 ?side3 A91.out).mono ?_); (case side1 => exact upC ((Kd.C_below HR7.out HB.out))); (case side2 => exact HC7.out); (case side3 => exact tabs_below HT.out (by first | exact upB HB.out | exact HB.out)); rintro e w97 ⟨rfl, hb⟩; have n0_ := Aside0.mk (below_step (by first | exact upB HB.out | exact HB.out) hb); clear HB; have HB := n0_; clear n0_; (try clear hb); (try clear hb2); (try clear hk); (try clear hi)) | (go_at_call 16; (with_reducible refine (pandectref02_Root.calls kj63 _ _ l0 t434 _ ?side1 ?side2 A92.out).mono ?_); (case side1 => exact upC ((Kd.C_below HR0.out HB.out))); (case side2 => exact HC0.out); rintro e w98 ⟨rfl, hb⟩; have n0_ := Aside0.mk (below_step (by first | exact upB HB.out | exact HB.out) hb); clear HB; have HB := n0_; clear n0_; (try clear hb); (try clear hb2); (try clear hk); (try clear hi)) | (go_at_call 21; clear tk103_; (with_reducible refine (pandectref02_Extends.calls kj63 a5 a2 t434 (l0.length : Int) _ _ l7 t435 _ ?side1 ?side2 A93.out).mono ?_); (case side1 => exact upC ((Kd.C_below HR7.out HB.out))); (case side2 => exact HC7.out); rintro e w99 ⟨rfl, hb⟩; have n0_ := Aside0.mk (below_step (by first | exact upB HB.out | exact HB.out) hb); clear HB; have HB := n0_; clear n0_; (try clear hb); (try clear hb2); (try clear hk); (try clear hi)))
                        go_ret
                        exact ⟨by first | rfl | (simp [errW_none, errW_some] <;> rfl) | (simp [*, errW_none, errW_some] <;> rfl), by first | exact upB HB.out | exact HB.out⟩
                      · rw [if_neg c89] at H
                        have c89b0 : (t430 == t431) = false := by simpa using c89
                        (try (have c89b1 : decide (t430 = t431) = false := by simpa using c89))
                        (try (have c89b2 : (t430 == t431) = false := by simpa using c89))
                        (try (have c89b3 : ¬ (t430 = t431) := by simpa using c89))
                        clear c89
                        obtain rfl := Option.some.inj H
                        go_wp2_with (first | (go_at_call 20; (with_reducible refine (tree_Extends.calls a5 a2 a4 a3 _ _ l7 t430 _ ?side1 ?side2 ?side3 A87.out).mono ?_); (case side1 => exact upC ((Kd.C_below HR7.out HB.out))); (case side2 => exact HC7.out); (case side3 => exact tabs_below HT.out (by first | exact upB HB.out | exact HB.out)); rintro e w104 ⟨rfl, hb⟩; have n0_ := Aside0.mk (below_step (by first | exact upB HB.out | exact HB.out) hb); clear HB; have HB := n0_; clear n0_; (try clear hb); (try clear hb2); (try clear hk); (try clear hi)) | (go_at_call 21; (with_reducible refine (pandectref02_Extends.calls kj63 a5 a2 a4 a3 _ _ l7 t431 _ ?side1 ?side2 A88.out).mono ?_); (case side1 => exact upC ((Kd.C_below HR7.out HB.out))); (case side2 => exact HC7.out); rintro e w105 ⟨rfl, hb⟩; have n0_ := Aside0.mk (below_step (by first | exact upB HB.out | exact HB.out) hb); clear HB; have HB := n0_; clear n0_; (try clear hb); (try clear hb2); (try clear hk); (try clear hi)))
                        go_ret
                        exact ⟨by first | rfl | (simp [errW_none, errW_some] <;> rfl) | (simp [*, errW_none, errW_some] <;> rfl), by first | exact upB HB.out | exact HB.out⟩
                    · replace c86 := Bool.eq_false_iff.mpr c86
                      subst c86
                      have H1 : (some false) = some r := by rw [if_neg (show ¬ (false = true) by decide)] at H; exact H
                      clear H
                      have H := H1
                      clear H1
                      obtain rfl := Option.some.inj H
                      go_wp2
                      go_ret
                      exact ⟨by first | rfl | (simp [errW_none, errW_some] <;> rfl) | (simp [*, errW_none, errW_some] <;> rfl), by first | exact upB HB.out | exact HB.out⟩
                  · replace c85 := Bool.eq_false_iff.mpr c85
                    subst c85
                    have H1 : (some false) = some r := by rw [if_neg (show ¬ (false = true) by decide)] at H; exact H
                    clear H
                    have H := H1
                    clear H1
                    obtain rfl := Option.some.inj H
                    go_wp2
                    go_ret
                    exact ⟨by first | rfl | (simp [errW_none, errW_some] <;> rfl) | (simp [*, errW_none, errW_some] <;> rfl), by first | exact upB HB.out | exact HB.out⟩
                · replace c84 := Bool.eq_false_iff.mpr c84
                  subst c84
                  have H1 : (some false) = some r := by rw [if_neg (show ¬ (false = true) by decide)] at H; exact H
                  clear H
                  have H := H1
                  clear H1
                  obtain rfl := Option.some.inj H
                  go_wp2
                  go_ret
                  exact ⟨by first | rfl | (simp [errW_none, errW_some] <;> rfl) | (simp [*, errW_none, errW_some] <;> rfl), by first | exact upB HB.out | exact HB.out⟩

end Go.Proofs.YteofiiggnegnkaaDoor.P
