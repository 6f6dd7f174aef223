import Derived.Test.YteofiiggnegnkaaDoorKPx0
import Derived.Test.YteofiiggnegnkaaDoorKPx1
import Derived.Test.YteofiiggnegnkaaDoorKPx2
import Derived.Test.YteofiiggnegnkaaDoorKPx3
import Derived.Test.YteofiiggnegnkaaDoorKCPx11
import Derived.Test.YteofiiggnegnkaaDoorKCPx12
import Derived.Test.YteofiiggnegnkaaDoorKCPx14
import Derived.Test.YteofiiggnegnkaaDoorKD
import Derived.Test.YteofiiggnegnkaaDoorKTb
set_option linter.unusedVariables false
set_option linter.unusedSimpArgs false
-- PRINTED by print.py (a twelfth state) out of the translation. Not trusted: Lean checks it.
namespace Go.Proofs.YteofiiggnegnkaaDoor.P
open Go.RowKit Go.Proofs.YteofiiggnegnkaaDoorW.PrintWords Go.Proofs.YteofiiggnegnkaaDoorW.PrintLast Go.Proofs.YteofiiggnegnkaaDoorW.PrintMore
attribute [local go_sem] max2_int min2_int max_two min_two max_three min_three max_four min_four   -- for this text's walks alone
set_option linter.unusedVariables false
set_option linter.unusedSimpArgs false

/-! ### pandectlaw02_TreeContinues: function 8 -/
mutual
def pandectlaw02_TreeContinues.j0 : Nat → List ByteArray → List ByteArray → List ByteArray → Bool → Bool → Option (Bool)
  | 0, _, _, _, _, _ => none
  | k + 1, x0, x1, x2, x7, x31 => if x31 = true then (some x7) else ((tree_Root.f k x0).bind fun t635 => ((tree_Root.f k x1).bind fun t636 => ((tree_Extends.f t635 (x0.length : Int) t636 (x1.length : Int) x2).bind fun t637 => (if t637 = true then (if 0 ≤ (x0.length : Int) then (if (x0.length : Int) ≤ (x1.length : Int) then ((pandectref01_Same.f k x0 (x1.take ((x0.length : Int) : Int).toNat)).bind fun t639 => (pandectlaw02_TreeContinues.j1 k x0 x1 x2 x7 t639)) else (none)) else (none)) else (pandectlaw02_TreeContinues.j1 k x0 x1 x2 x7 true)))))
def pandectlaw02_TreeContinues.j1 : Nat → List ByteArray → List ByteArray → List ByteArray → Bool → Bool → Option (Bool)
  | 0, _, _, _, _, _ => none
  | k + 1, x0, x1, x2, x7, x51 => if x51 = true then (some x7) else ((tree_Link.f k x1 (x0.length : Int)).bind fun bt640 => (if bt640.2 = 0 then (if (bt640.1.length : Int) = (x2.length : Int) then (pandectlaw02_TreeContinues.j2 k x0 x1 x2 x7 ((x0.length : Int) == 0)) else (pandectlaw02_TreeContinues.j2 k x0 x1 x2 x7 true)) else (pandectlaw02_TreeContinues.j2 k x0 x1 x2 x7 true)))
def pandectlaw02_TreeContinues.j2 : Nat → List ByteArray → List ByteArray → List ByteArray → Bool → Bool → Option (Bool)
  | 0, _, _, _, _, _ => none
  | k + 1, x0, x1, x2, x7, x73 => if x73 = true then (some false) else ((pandectref02_Texts.f k x0).bind fun t644 => ((pandectref02_Texts.f k x1).bind fun t647 => (if t644.length + t647.length < 8796093022208 then ((some (t644 ++ t647 : List ByteArray)).bind fun y650 => (if 0 ≤ (x0.length : Int) then (if (x0.length : Int) ≤ (x1.length : Int) then ((pandectref02_Texts.f k (x1.take ((x0.length : Int) : Int).toNat)).bind fun t654 => (if y650.length + t654.length < 8796093022208 then ((some (y650 ++ t654 : List ByteArray)).bind fun y657 => (if x7 = true then ((tree_Root.f k x0).bind fun t660 => ((pandectref02_LinkTexts.f k (x1.length : Int) (x0.length : Int) true t660 x2).bind fun t661 => (if y657.length + t661.length < 8796093022208 then ((pandectref02_Shown.f k (y657 ++ t661)).bind fun t667 => (some t667)) else (none)))) else (some false))) else (none))) else (none)) else (none))) else (none))))
end
def pandectlaw02_TreeContinues.f (k : Nat) (l0 : List ByteArray) (l1 : List ByteArray) (l2 : List ByteArray) : Option (Bool) := (pandectlaw02_head.f k).bind fun t631 => ((pandectlaw02_few.f k l0).bind fun t632 => (if t632 = true then ((pandectlaw02_few.f k l1).bind fun t633 => (if t633 = true then ((pandectlaw02_few.f k l2).bind fun t634 => (if t634 = true then (pandectlaw02_TreeContinues.j0 k l0 l1 l2 t631 (decide ((l0.length : Int) > (l1.length : Int)))) else (pandectlaw02_TreeContinues.j0 k l0 l1 l2 t631 true))) else (pandectlaw02_TreeContinues.j0 k l0 l1 l2 t631 true))) else (pandectlaw02_TreeContinues.j0 k l0 l1 l2 t631 true)))
def pandectlaw02_TreeContinues.T9 : Bool × List (List Nat × List Nat) := (true, [([], []), ([0], [0]), ([], []), ([2, 1], [2]), ([1, 3, 3], [1, 3]), ([], []), ([], []), ([6], [6]), ([5, 7], [5, 7]), ([8, 4], [8]), ([4, 9, 9], [4, 9]), ([10, 10, 0, 1, 2, 3, 4, 5, 6, 7, 8, 9, 10], [10])])
def pandectlaw02_TreeContinues.B9 : List Nat := [0, 1, 0, 7, 15, 0, 0, 64, 224, 511, 1023, 2047]
theorem pandectlaw02_TreeContinues.tab9 : rtab .any (opsOf Tryd.f8 9) = pandectlaw02_TreeContinues.T9 := by kernel_rfl
theorem pandectlaw02_TreeContinues.bits9 : waitsOk pandectlaw02_TreeContinues.T9.2 pandectlaw02_TreeContinues.B9 = true := by kernel_rfl
set_option maxHeartbeats 8000000 in
set_option maxRecDepth 100000 in
theorem pandectlaw02_TreeContinues.calls (k : Nat) (A0 : Option Addr) (c0 : Nat) (l0 : List ByteArray) (A1 : Option Addr) (c1 : Nat) (l1 : List ByteArray) (A2 : Option Addr) (c2 : Nat) (l2 : List ByteArray) (r : Bool) (w : World) (hr0 : Kd.C Kd.string w A0 l0.length l0) (hc0 : l0.length ≤ c0) (hr1 : Kd.C Kd.string w A1 l1.length l1) (hc1 : l1.length ≤ c1) (hr2 : Kd.C Kd.string w A2 l2.length l2) (hc2 : l2.length ≤ c2) (hT : Tabs w) (h : pandectlaw02_TreeContinues.f k l0 l1 l2 = some r) :
    Calls Tryd.prog 8 #[.slice A0 l0.length c0, .slice A1 l1.length c1, .slice A2 l2.length c2] w fun e w' => e = .returned (.bool r) ∧ Below w.heap.size w w' := by
  have HT := Aside0.mk hT
  clear hT
  have HR0 := Aside0.mk hr0
  have HC0 := Aside0.mk hc0
  clear hr0 hc0
  have HR1 := Aside0.mk hr1
  have HC1 := Aside0.mk hc1
  clear hr1 hc1
  have HR2 := Aside0.mk hr2
  have HC2 := Aside0.mk hc2
  clear hr2 hc2
  have HB := Aside0.mk (Below.refl w.heap.size w)
  have H : ((pandectlaw02_head.f k).bind fun t631 => ((pandectlaw02_few.f k l0).bind fun t632 => (if t632 = true then ((pandectlaw02_few.f k l1).bind fun t633 => (if t633 = true then ((pandectlaw02_few.f k l2).bind fun t634 => (if t634 = true then (pandectlaw02_TreeContinues.j0 k l0 l1 l2 t631 (decide ((l0.length : Int) > (l1.length : Int)))) else (pandectlaw02_TreeContinues.j0 k l0 l1 l2 t631 true))) else (pandectlaw02_TreeContinues.j0 k l0 l1 l2 t631 true))) else (pandectlaw02_TreeContinues.j0 k l0 l1 l2 t631 true)))) = some r := h
  clear h
  replace H := Option.bind_eq_some_iff.mp H
  obtain ⟨t631, A40, H⟩ := H
  replace H : ((pandectlaw02_few.f k l0).bind fun t632 => (if t632 = true then ((pandectlaw02_few.f k l1).bind fun t633 => (if t633 = true then ((pandectlaw02_few.f k l2).bind fun t634 => (if t634 = true then (pandectlaw02_TreeContinues.j0 k l0 l1 l2 t631 (decide ((l0.length : Int) > (l1.length : Int)))) else (pandectlaw02_TreeContinues.j0 k l0 l1 l2 t631 true))) else (pandectlaw02_TreeContinues.j0 k l0 l1 l2 t631 true))) else (pandectlaw02_TreeContinues.j0 k l0 l1 l2 t631 true))) = some r := H
  have A4 := Aside0.mk A40
  clear A40
  have HC5 := Aside0.mk H
  clear H
  go_enter Tryd.func8, Tryd.ntmps8
  go_upto_region 2 with (first | ((with_reducible refine gate_callee (f := 9) rfl ?_); refine goesL_ (some 11) rfl rfl Tryd.func9 (by kernel_rfl) rfl #[] rfl (by (try simp only [List.map_toArray, List.map_cons, List.map_nil]); first | done | rfl | (simp only [List.length_drop, List.length_take]; rfl)) ?_; (with_reducible refine (pandectlaw02_head.calls k  t631 _ ?side1 A4.out).mono ?_); (case side1 => exact tabs_below HT.out (by first | exact upB HB.out | exact HB.out)); rintro e w6 ⟨rfl, hb⟩; refine ⟨_, rfl, ?_⟩; have n0_ := Aside0.mk (below_step (by first | exact upB HB.out | exact HB.out) hb); clear HB; have HB := n0_; clear n0_; (try clear hb); (try clear hb2); (try clear hk); (try clear hi)))
  (try simp only [Act.put, List.setIfInBounds_toArray, List.set_cons_zero, List.set_cons_succ])
  go_cut [31] (fun v31 wc => ∃ (kq : Nat) (x31_4 : Bool), v31 = .bool x31_4 ∧ Aside0 (pandectlaw02_TreeContinues.j0 kq l0 l1 l2 t631 x31_4 = some r) ∧ Aside0 (kq ≤ k) ∧ Aside0 (Below w.heap.size w wc))
  case first =>
    have H := HC5.out
    clear HC5
    replace H := Option.bind_eq_some_iff.mp H
    obtain ⟨t632, A70, H⟩ := H
    replace H : (if t632 = true then ((pandectlaw02_few.f k l1).bind fun t633 => (if t633 = true then ((pandectlaw02_few.f k l2).bind fun t634 => (if t634 = true then (pandectlaw02_TreeContinues.j0 k l0 l1 l2 t631 (decide ((l0.length : Int) > (l1.length : Int)))) else (pandectlaw02_TreeContinues.j0 k l0 l1 l2 t631 true))) else (pandectlaw02_TreeContinues.j0 k l0 l1 l2 t631 true))) else (pandectlaw02_TreeContinues.j0 k l0 l1 l2 t631 true)) = some r := H
    have A7 := Aside0.mk A70
    clear A70
    by_cases c8 : t632 = true
    · subst c8
      have H1 : ((pandectlaw02_few.f k l1).bind fun t633 => (if t633 = true then ((pandectlaw02_few.f k l2).bind fun t634 => (if t634 = true then (pandectlaw02_TreeContinues.j0 k l0 l1 l2 t631 (decide ((l0.length : Int) > (l1.length : Int)))) else (pandectlaw02_TreeContinues.j0 k l0 l1 l2 t631 true))) else (pandectlaw02_TreeContinues.j0 k l0 l1 l2 t631 true))) = some r := by rw [if_pos rfl] at H; exact H
      clear H
      have H := H1
      clear H1
      replace H := Option.bind_eq_some_iff.mp H
      obtain ⟨t633, A90, H⟩ := H
      replace H : (if t633 = true then ((pandectlaw02_few.f k l2).bind fun t634 => (if t634 = true then (pandectlaw02_TreeContinues.j0 k l0 l1 l2 t631 (decide ((l0.length : Int) > (l1.length : Int)))) else (pandectlaw02_TreeContinues.j0 k l0 l1 l2 t631 true))) else (pandectlaw02_TreeContinues.j0 k l0 l1 l2 t631 true)) = some r := H
      have A9 := Aside0.mk A90
      clear A90
      by_cases c10 : t633 = true
      · subst c10
        have H1 : ((pandectlaw02_few.f k l2).bind fun t634 => (if t634 = true then (pandectlaw02_TreeContinues.j0 k l0 l1 l2 t631 (decide ((l0.length : Int) > (l1.length : Int)))) else (pandectlaw02_TreeContinues.j0 k l0 l1 l2 t631 true))) = some r := by rw [if_pos rfl] at H; exact H
        clear H
        have H := H1
        clear H1
        replace H := Option.bind_eq_some_iff.mp H
        obtain ⟨t634, A110, H⟩ := H
        replace H : (if t634 = true then (pandectlaw02_TreeContinues.j0 k l0 l1 l2 t631 (decide ((l0.length : Int) > (l1.length : Int)))) else (pandectlaw02_TreeContinues.j0 k l0 l1 l2 t631 true)) = some r := H
        have A11 := Aside0.mk A110
        clear A110
        by_cases c12 : t634 = true
        · subst c12
          have H1 : (pandectlaw02_TreeContinues.j0 k l0 l1 l2 t631 (decide ((l0.length : Int) > (l1.length : Int)))) = some r := by rw [if_pos rfl] at H; exact H
          clear H
          have H := H1
          clear H1
          have H' := Aside0.mk H
          clear H
          have tk13_ : True := trivial
          have tk14_ : True := trivial
          have tk15_ : True := trivial
          go_wp2_with (first | ((with_reducible refine gate_callee (f := 10) rfl ?_); clear tk13_; refine goesL_ (some 13) rfl rfl Tryd.func10 (by kernel_rfl) rfl #[.slice A0 l0.length c0] rfl (by (try simp only [List.map_toArray, List.map_cons, List.map_nil]); first | done | rfl | (simp only [List.length_drop, List.length_take]; rfl)) ?_; (with_reducible refine (pandectlaw02_few.calls k _ _ l0 true _ ?side1 ?side2 A7.out).mono ?_); (case side1 => exact upC ((Kd.C_below HR0.out HB.out))); (case side2 => exact HC0.out); rintro e w' ⟨rfl, ⟨nd, rfl⟩⟩; refine ⟨_, rfl, ?_⟩) | (go_at_call 10; clear tk14_; (with_reducible refine (pandectlaw02_few.calls k _ _ l1 true _ ?side1 ?side2 A9.out).mono ?_); (case side1 => repeat (first | exact (Kd.C_below HR1.out (by first | exact upB HB.out | exact HB.out)) | (with_reducible refine Kd.C_alloc ?_ _) | (with_reducible refine Kd.C_drewN ?_ _) | (with_reducible refine Kd.C_drew ?_))); (case side2 => exact HC1.out); rintro e w' ⟨rfl, ⟨nd, rfl⟩⟩) | (go_at_call 10; clear tk15_; (with_reducible refine (pandectlaw02_few.calls k _ _ l2 true _ ?side1 ?side2 A11.out).mono ?_); (case side1 => repeat (first | exact (Kd.C_below HR2.out (by first | exact upB HB.out | exact HB.out)) | (with_reducible refine Kd.C_alloc ?_ _) | (with_reducible refine Kd.C_drewN ?_ _) | (with_reducible refine Kd.C_drew ?_))); (case side2 => exact HC2.out); rintro e w' ⟨rfl, ⟨nd, rfl⟩⟩))
          go_meet
          case rel => exact ⟨_, (decide ((l0.length : Int) > (l1.length : Int))), (by first | rfl | (simp; done) | (simp [*]; done)), H', ⟨by first | omega | exact Nat.le_refl _⟩, ⟨by first | exact upB HB.out | exact HB.out⟩⟩
        · replace c12 := Bool.eq_false_iff.mpr c12
          subst c12
          have H1 : (pandectlaw02_TreeContinues.j0 k l0 l1 l2 t631 true) = some r := by rw [if_neg (show ¬ (false = true) by decide)] at H; exact H
          clear H
          have H := H1
          clear H1
          have H' := Aside0.mk H
          clear H
          have tk16_ : True := trivial
          have tk17_ : True := trivial
          have tk18_ : True := trivial
          go_wp2_with (first | ((with_reducible refine gate_callee (f := 10) rfl ?_); clear tk16_; refine goesL_ (some 13) rfl rfl Tryd.func10 (by kernel_rfl) rfl #[.slice A0 l0.length c0] rfl (by (try simp only [List.map_toArray, List.map_cons, List.map_nil]); first | done | rfl | (simp only [List.length_drop, List.length_take]; rfl)) ?_; (with_reducible refine (pandectlaw02_few.calls k _ _ l0 true _ ?side1 ?side2 A7.out).mono ?_); (case side1 => exact upC ((Kd.C_below HR0.out HB.out))); (case side2 => exact HC0.out); rintro e w' ⟨rfl, ⟨nd, rfl⟩⟩; refine ⟨_, rfl, ?_⟩) | (go_at_call 10; clear tk17_; (with_reducible refine (pandectlaw02_few.calls k _ _ l1 true _ ?side1 ?side2 A9.out).mono ?_); (case side1 => repeat (first | exact (Kd.C_below HR1.out (by first | exact upB HB.out | exact HB.out)) | (with_reducible refine Kd.C_alloc ?_ _) | (with_reducible refine Kd.C_drewN ?_ _) | (with_reducible refine Kd.C_drew ?_))); (case side2 => exact HC1.out); rintro e w' ⟨rfl, ⟨nd, rfl⟩⟩) | (go_at_call 10; clear tk18_; (with_reducible refine (pandectlaw02_few.calls k _ _ l2 false _ ?side1 ?side2 A11.out).mono ?_); (case side1 => repeat (first | exact (Kd.C_below HR2.out (by first | exact upB HB.out | exact HB.out)) | (with_reducible refine Kd.C_alloc ?_ _) | (with_reducible refine Kd.C_drewN ?_ _) | (with_reducible refine Kd.C_drew ?_))); (case side2 => exact HC2.out); rintro e w' ⟨rfl, ⟨nd, rfl⟩⟩))
          go_meet
          case rel => exact ⟨_, (true), (by first | rfl | (simp; done) | (simp [*]; done)), H', ⟨by first | omega | exact Nat.le_refl _⟩, ⟨by first | exact upB HB.out | exact HB.out⟩⟩
      · replace c10 := Bool.eq_false_iff.mpr c10
        subst c10
        have H1 : (pandectlaw02_TreeContinues.j0 k l0 l1 l2 t631 true) = some r := by rw [if_neg (show ¬ (false = true) by decide)] at H; exact H
        clear H
        have H := H1
        clear H1
        have H' := Aside0.mk H
        clear H
        have tk19_ : True := trivial
        have tk20_ : True := trivial
        go_wp2_with (first | ((with_reducible refine gate_callee (f := 10) rfl ?_); clear tk19_; refine goesL_ (some 13) rfl rfl Tryd.func10 (by kernel_rfl) rfl #[.slice A0 l0.length c0] rfl (by (try simp only [List.map_toArray, List.map_cons, List.map_nil]); first | done | rfl | (simp only [List.length_drop, List.length_take]; rfl)) ?_; (with_reducible refine (pandectlaw02_few.calls k _ _ l0 true _ ?side1 ?side2 A7.out).mono ?_); (case side1 => exact upC ((Kd.C_below HR0.out HB.out))); (case side2 => exact HC0.out); rintro e w' ⟨rfl, ⟨nd, rfl⟩⟩; refine ⟨_, rfl, ?_⟩) | (go_at_call 10; clear tk20_; (with_reducible refine (pandectlaw02_few.calls k _ _ l1 false _ ?side1 ?side2 A9.out).mono ?_); (case side1 => repeat (first | exact (Kd.C_below HR1.out (by first | exact upB HB.out | exact HB.out)) | (with_reducible refine Kd.C_alloc ?_ _) | (with_reducible refine Kd.C_drewN ?_ _) | (with_reducible refine Kd.C_drew ?_))); (case side2 => exact HC1.out); rintro e w' ⟨rfl, ⟨nd, rfl⟩⟩))
        go_meet
        case rel => exact ⟨_, (true), (by first | rfl | (simp; done) | (simp [*]; done)), H', ⟨by first | omega | exact Nat.le_refl _⟩, ⟨by first | exact upB HB.out | exact HB.out⟩⟩
    · replace c8 := Bool.eq_false_iff.mpr c8
      subst c8
      have H1 : (pandectlaw02_TreeContinues.j0 k l0 l1 l2 t631 true) = some r := by rw [if_neg (show ¬ (false = true) by decide)] at H; exact H
      clear H
      have H := H1
      clear H1
      have H' := Aside0.mk H
      clear H
      go_wp2_with (first | ((with_reducible refine gate_callee (f := 10) rfl ?_); refine goesL_ (some 13) rfl rfl Tryd.func10 (by kernel_rfl) rfl #[.slice A0 l0.length c0] rfl (by (try simp only [List.map_toArray, List.map_cons, List.map_nil]); first | done | rfl | (simp only [List.length_drop, List.length_take]; rfl)) ?_; (with_reducible refine (pandectlaw02_few.calls k _ _ l0 false _ ?side1 ?side2 A7.out).mono ?_); (case side1 => exact upC ((Kd.C_below HR0.out HB.out))); (case side2 => exact HC0.out); rintro e w' ⟨rfl, ⟨nd, rfl⟩⟩; refine ⟨_, rfl, ?_⟩))
      go_meet
      case rel => exact ⟨_, (true), (by first | rfl | (simp; done) | (simp [*]; done)), H', ⟨by first | omega | exact Nat.le_refl _⟩, ⟨by first | exact upB HB.out | exact HB.out⟩⟩
  case rest =>
    clear HC5
    try clear c1
    try clear c2
    try clear p2
    try clear c8
    try clear c9
    try clear c10
    try clear c12
    obtain ⟨kq, x31_4, rfl, HA, HJ4, HB⟩ := hcut
    cases kq with
    | zero => exact absurd HA.out (by simp [pandectlaw02_TreeContinues.j0])
    | succ kj4 =>
      have H := HA.out
      clear HA
      simp only [pandectlaw02_TreeContinues.j0] at H
      by_cases c21 : x31_4 = true
      · subst c21
        have H1 : (some t631) = some r := by rw [if_pos rfl] at H; exact H
        clear H
        have H := H1
        clear H1
        obtain rfl := Option.some.inj H
        go_wp2
        go_ret
        exact ⟨by first | rfl | (simp [errW_none, errW_some] <;> rfl) | (simp [*, errW_none, errW_some] <;> rfl), by first | exact upB HB.out | exact HB.out⟩
      · replace c21 := Bool.eq_false_iff.mpr c21
        subst c21
        have H1 : ((tree_Root.f kj4 l0).bind fun t635 => ((tree_Root.f kj4 l1).bind fun t636 => ((tree_Extends.f t635 (l0.length : Int) t636 (l1.length : Int) l2).bind fun t637 => (if t637 = true then (if 0 ≤ (l0.length : Int) then (if (l0.length : Int) ≤ (l1.length : Int) then ((pandectref01_Same.f kj4 l0 (l1.take ((l0.length : Int) : Int).toNat)).bind fun t639 => (pandectlaw02_TreeContinues.j1 kj4 l0 l1 l2 t631 t639)) else (none)) else (none)) else (pandectlaw02_TreeContinues.j1 kj4 l0 l1 l2 t631 true))))) = some r := by rw [if_neg (show ¬ (false = true) by decide)] at H; exact H
        clear H
        have H := H1
        clear H1
        have HC22 := Aside0.mk H
        clear H
        go_upto_region 4 with (fail)
        go_cut [51] (fun v51 wc => ∃ (kq : Nat) (x51_21 : Bool), v51 = .bool x51_21 ∧ Aside0 (pandectlaw02_TreeContinues.j1 kq l0 l1 l2 t631 x51_21 = some r) ∧ Aside0 (kq ≤ kj4) ∧ Aside0 (Below w.heap.size w wc))
        case first =>
          have H := HC22.out
          clear HC22
          replace H := Option.bind_eq_some_iff.mp H
          obtain ⟨t635, A230, H⟩ := H
          replace H : ((tree_Root.f kj4 l1).bind fun t636 => ((tree_Extends.f t635 (l0.length : Int) t636 (l1.length : Int) l2).bind fun t637 => (if t637 = true then (if 0 ≤ (l0.length : Int) then (if (l0.length : Int) ≤ (l1.length : Int) then ((pandectref01_Same.f kj4 l0 (l1.take ((l0.length : Int) : Int).toNat)).bind fun t639 => (pandectlaw02_TreeContinues.j1 kj4 l0 l1 l2 t631 t639)) else (none)) else (none)) else (pandectlaw02_TreeContinues.j1 kj4 l0 l1 l2 t631 true)))) = some r := H
          have A23 := Aside0.mk A230
          clear A230
          replace H := Option.bind_eq_some_iff.mp H
          obtain ⟨t636, A240, H⟩ := H
          replace H : ((tree_Extends.f t635 (l0.length : Int) t636 (l1.length : Int) l2).bind fun t637 => (if t637 = true then (if 0 ≤ (l0.length : Int) then (if (l0.length : Int) ≤ (l1.length : Int) then ((pandectref01_Same.f kj4 l0 (l1.take ((l0.length : Int) : Int).toNat)).bind fun t639 => (pandectlaw02_TreeContinues.j1 kj4 l0 l1 l2 t631 t639)) else (none)) else (none)) else (pandectlaw02_TreeContinues.j1 kj4 l0 l1 l2 t631 true))) = some r := H
          have A24 := Aside0.mk A240
          clear A240
          replace H := Option.bind_eq_some_iff.mp H
          obtain ⟨t637, A250, H⟩ := H
          replace H : (if t637 = true then (if 0 ≤ (l0.length : Int) then (if (l0.length : Int) ≤ (l1.length : Int) then ((pandectref01_Same.f kj4 l0 (l1.take ((l0.length : Int) : Int).toNat)).bind fun t639 => (pandectlaw02_TreeContinues.j1 kj4 l0 l1 l2 t631 t639)) else (none)) else (none)) else (pandectlaw02_TreeContinues.j1 kj4 l0 l1 l2 t631 true)) = some r := H
          have A25 := Aside0.mk A250
          clear A250
          by_cases c26 : t637 = true
          · subst c26
            have H1 : (if 0 ≤ (l0.length : Int) then (if (l0.length : Int) ≤ (l1.length : Int) then ((pandectref01_Same.f kj4 l0 (l1.take ((l0.length : Int) : Int).toNat)).bind fun t639 => (pandectlaw02_TreeContinues.j1 kj4 l0 l1 l2 t631 t639)) else (none)) else (none)) = some r := by rw [if_pos rfl] at H; exact H
            clear H
            have H := H1
            clear H1
            by_cases c27 : 0 ≤ (l0.length : Int)
            · rw [if_pos c27] at H
              have c27b0 := eq_true c27
              have c27b1 : decide (0 ≤ (l0.length : Int)) = true := decide_eq_true c27
              clear c27
              by_cases c28 : (l0.length : Int) ≤ (l1.length : Int)
              · rw [if_pos c28] at H
                have c28b0 := eq_true c28
                have c28b1 : decide ((l0.length : Int) ≤ (l1.length : Int)) = true := decide_eq_true c28
                clear c28
                replace H := Option.bind_eq_some_iff.mp H
                obtain ⟨t639, A290, H⟩ := H
                replace H : (pandectlaw02_TreeContinues.j1 kj4 l0 l1 l2 t631 t639) = some r := H
                have A29 := Aside0.mk A290
                clear A290
                have H' := Aside0.mk H
                clear H
                have tk34_ : True := trivial
                have tk35_ : True := trivial
                go_wp2_with (first | ((with_reducible refine gate_callee (f := 15) rfl ?_); clear tk34_; refine goesL_ (some 34) rfl rfl Tryd.func15 (by kernel_rfl) rfl #[.slice A0 l0.length c0] rfl (by (try simp only [List.map_toArray, List.map_cons, List.map_nil]); first | done | rfl | (simp only [List.length_drop, List.length_take]; rfl)) ?_; (with_reducible refine (tree_Root.calls kj4 _ _ l0 t635 _ ?side1 ?side2 ?side3 A23.out).mono ?_); (case side1 => exact upC ((Kd.C_below HR0.out HB.out))); (case side2 => exact HC0.out); (case side3 => exact tabs_below HT.out (by first | exact upB HB.out | exact HB.out)); rintro e w30 ⟨rfl, hb⟩; refine ⟨_, rfl, ?_⟩; have n0_ := Aside0.mk (below_step (by first | exact upB HB.out | exact HB.out) hb); clear HB; have HB := n0_; clear n0_; (try clear hb); (try clear hb2); (try clear hk); (try clear hi)) | ((with_reducible refine gate_callee (f := 15) rfl ?_); clear tk35_; refine goesL_ (some 38) rfl rfl Tryd.func15 (by kernel_rfl) rfl #[.slice A1 l1.length c1] rfl (by (try simp only [List.map_toArray, List.map_cons, List.map_nil]); first | done | rfl | (simp only [List.length_drop, List.length_take]; rfl)) ?_; (with_reducible refine (tree_Root.calls kj4 _ _ l1 t636 _ ?side1 ?side2 ?side3 A24.out).mono ?_); (case side1 => exact upC ((Kd.C_below HR1.out HB.out))); (case side2 => exact HC1.out); (case side3 => exact tabs_below HT.out (by first | exact upB HB.out | exact HB.out)); rintro e w31 ⟨rfl, hb⟩; refine ⟨_, rfl, ?_⟩; have n0_ := Aside0.mk (below_step (by first | exact upB HB.out | exact HB.out) hb); clear HB; have HB := n0_; clear n0_; (try clear hb); (try clear hb2); (try clear hk); (try clear hi)) | ((with_reducible refine gate_callee (f := 20) rfl ?_); refine goesL_ (some 42) rfl rfl Tryd.func20 (by kernel_rfl) rfl #[.string t635, .int .i64 (l0.length : Int), .string t636, .int .i64 (l1.length : Int), .slice A2 l2.length c2] rfl (by (try simp only [List.map_toArray, List.map_cons, List.map_nil]); first | done | rfl | (simp only [List.length_drop, List.length_take]; rfl)) ?_; (with_reducible refine (tree_Extends.calls t635 (l0.length : Int) t636 (l1.length : Int) _ _ l2 true _ ?side1 ?side2 ?side3 A25.out).mono ?_); (case side1 => exact upC ((Kd.C_below HR2.out HB.out))); (case side2 => exact HC2.out); (case side3 => exact tabs_below HT.out (by first | exact upB HB.out | exact HB.out)); rintro e w32 ⟨rfl, hb⟩; refine ⟨_, rfl, ?_⟩; have n0_ := Aside0.mk (below_step (by first | exact upB HB.out | exact HB.out) hb); clear HB; have HB := n0_; clear n0_; (try clear hb); (try clear hb2); (try clear hk); (try clear hi); obtain ⟨i033, hi033, _, hsz33, _⟩ := info_parts info9; obtain ⟨hcut33, hA33, hC33⟩ := print_take_of (P := Tryd.prog) Value.string (⟨#[]⟩ : ByteArray) 22 9 .i64 Tryd.underlying22 hi033 hsz33 A1 c1 l1 (l0.length : Int) (of_decide_eq_true (by first | (with_reducible assumption) | assumption)) (of_decide_eq_true (by first | (with_reducible assumption) | assumption)) HC1.out; have HR638 := Aside0.mk (Kd.C_of_reads (h1 := fun _ => rfl) (hA33 _ (Kd.reads_of_C HR1.out))); have HC638 := Aside0.mk hC33; clear hA33 hC33 hi033 hsz33) | (go_at_call 17; refine calls_of_args (args' := #[.slice A0 l0.length c0, .slice A1 (l1.take ((l0.length : Int) : Int).toNat).length c1]) (by first | (rw [show (l1.take ((l0.length : Int) : Int).toNat).length = (l0.length : Int).toNat from (by rw [List.length_take]; have h_ : ((l0.length : Int) : Int) ≤ (l1.length : Int) := of_decide_eq_true (by first | (with_reducible assumption) | assumption); omega)] <;> rfl) | rfl | (simp only [List.length_drop, List.length_take]; rfl)) ?_; (with_reducible refine (pandectref01_Same.calls kj4 _ _ l0 _ _ (l1.take ((l0.length : Int) : Int).toNat) t639 _ ?side1 ?side2 ?side3 ?side4 A29.out).mono ?_); (case side1 => exact upC ((Kd.C_below HR0.out HB.out))); (case side2 => exact HC0.out); (case side3 => exact upC ((Kd.C_below HR638.out HB.out))); (case side4 => exact HC638.out); rintro e w' ⟨rfl, ⟨nd, rfl⟩⟩))
                go_meet
                case rel => exact ⟨_, (t639), (by first | rfl | (simp; done) | (simp [*]; done)), H', ⟨by have := HJ4.out; first | omega | exact Nat.le_refl _⟩, ⟨by first | exact upB HB.out | exact HB.out⟩⟩
              · rw [if_neg c28] at H
                exact absurd H (by simp)
            · rw [if_neg c27] at H
              exact absurd H (by simp)
          · replace c26 := Bool.eq_false_iff.mpr c26
            subst c26
            have H1 : (pandectlaw02_TreeContinues.j1 kj4 l0 l1 l2 t631 true) = some r := by rw [if_neg (show ¬ (false = true) by decide)] at H; exact H
            clear H
            have H := H1
            clear H1
            have H' := Aside0.mk H
            clear H
            have tk39_ : True := trivial
            have tk40_ : True := trivial
            go_wp2_with (first | ((with_reducible refine gate_callee (f := 15) rfl ?_); clear tk39_; refine goesL_ (some 34) rfl rfl Tryd.func15 (by kernel_rfl) rfl #[.slice A0 l0.length c0] rfl (by (try simp only [List.map_toArray, List.map_cons, List.map_nil]); first | done | rfl | (simp only [List.length_drop, List.length_take]; rfl)) ?_; (with_reducible refine (tree_Root.calls kj4 _ _ l0 t635 _ ?side1 ?side2 ?side3 A23.out).mono ?_); (case side1 => exact upC ((Kd.C_below HR0.out HB.out))); (case side2 => exact HC0.out); (case side3 => exact tabs_below HT.out (by first | exact upB HB.out | exact HB.out)); rintro e w36 ⟨rfl, hb⟩; refine ⟨_, rfl, ?_⟩; have n0_ := Aside0.mk (below_step (by first | exact upB HB.out | exact HB.out) hb); clear HB; have HB := n0_; clear n0_; (try clear hb); (try clear hb2); (try clear hk); (try clear hi)) | ((with_reducible refine gate_callee (f := 15) rfl ?_); clear tk40_; refine goesL_ (some 38) rfl rfl Tryd.func15 (by kernel_rfl) rfl #[.slice A1 l1.length c1] rfl (by (try simp only [List.map_toArray, List.map_cons, List.map_nil]); first | done | rfl | (simp only [List.length_drop, List.length_take]; rfl)) ?_; (with_reducible refine (tree_Root.calls kj4 _ _ l1 t636 _ ?side1 ?side2 ?side3 A24.out).mono ?_); (case side1 => exact upC ((Kd.C_below HR1.out HB.out))); (case side2 => exact HC1.out); (case side3 => exact tabs_below HT.out (by first | exact upB HB.out | exact HB.out)); rintro e w37 ⟨rfl, hb⟩; refine ⟨_, rfl, ?_⟩; have n0_ := Aside0.mk (below_step (by first | exact upB HB.out | exact HB.out) hb); clear HB; have HB := n0_; clear n0_; (try clear hb); (try clear hb2); (try clear hk); (try clear hi)) | ((with_reducible refine gate_callee (f := 20) rfl ?_); refine goesL_ (some 42) rfl rfl Tryd.func20 (by kernel_rfl) rfl #[.string t635, .int .i64 (l0.length : Int), .string t636, .int .i64 (l1.length : Int), .slice A2 l2.length c2] rfl (by (try simp only [List.map_toArray, List.map_cons, List.map_nil]); first | done | rfl | (simp only [List.length_drop, List.length_take]; rfl)) ?_; (with_reducible refine (tree_Extends.calls t635 (l0.length : Int) t636 (l1.length : Int) _ _ l2 false _ ?side1 ?side2 ?side3 A25.out).mono ?_); (case side1 => exact upC ((Kd.C_below HR2.out HB.out))); (case side2 => exact HC2.out); (case side3 => exact tabs_below HT.out (by first | exact upB HB.out | exact HB.out)); rintro e w38 ⟨rfl, hb⟩; refine ⟨_, rfl, ?_⟩; have n0_ := Aside0.mk (below_step (by first | exact upB HB.out | exact HB.out) hb); clear HB; have HB := n0_; clear n0_; (try clear hb); (try clear hb2); (try clear hk); (try clear hi)))
            go_meet
            case rel => exact ⟨_, (true), (by first | rfl | (simp; done) | (simp [*]; done)), H', ⟨by have := HJ4.out; first | omega | exact Nat.le_refl _⟩, ⟨by first | exact upB HB.out | exact HB.out⟩⟩
        case rest =>
          clear HC22
          try clear c1
          try clear c2
          try clear p2
          try clear c8
          try clear c9
          try clear c10
          try clear c12
          try clear c15
          try clear c20
          try clear c21
          try clear c26
          try clear c27
          try clear c27b0
          try clear c27b1
          try clear c28
          try clear c28b0
          try clear c28b1
          try clear p2
          obtain ⟨kq, x51_21, rfl, HA, HJ21, HB⟩ := hcut
          cases kq with
          | zero => exact absurd HA.out (by simp [pandectlaw02_TreeContinues.j1])
          | succ kj21 =>
            have H := HA.out
            clear HA
            simp only [pandectlaw02_TreeContinues.j1] at H
            by_cases c41 : x51_21 = true
            · subst c41
              have H1 : (some t631) = some r := by rw [if_pos rfl] at H; exact H
              clear H
              have H := H1
              clear H1
              obtain rfl := Option.some.inj H
              go_wp2
              go_ret
              exact ⟨by first | rfl | (simp [errW_none, errW_some] <;> rfl) | (simp [*, errW_none, errW_some] <;> rfl), by first | exact upB HB.out | exact HB.out⟩
            · replace c41 := Bool.eq_false_iff.mpr c41
              subst c41
              have H1 : ((tree_Link.f kj21 l1 (l0.length : Int)).bind fun bt640 => (if bt640.2 = 0 then (if (bt640.1.length : Int) = (l2.length : Int) then (pandectlaw02_TreeContinues.j2 kj21 l0 l1 l2 t631 ((l0.length : Int) == 0)) else (pandectlaw02_TreeContinues.j2 kj21 l0 l1 l2 t631 true)) else (pandectlaw02_TreeContinues.j2 kj21 l0 l1 l2 t631 true))) = some r := by rw [if_neg (show ¬ (false = true) by decide)] at H; exact H
              clear H
              have H := H1
              clear H1
              replace H := Option.bind_eq_some_iff.mp H
              obtain ⟨⟨t640, t643⟩, A420, H⟩ := H
              replace H : (if t643 = 0 then (if (t640.length : Int) = (l2.length : Int) then (pandectlaw02_TreeContinues.j2 kj21 l0 l1 l2 t631 ((l0.length : Int) == 0)) else (pandectlaw02_TreeContinues.j2 kj21 l0 l1 l2 t631 true)) else (pandectlaw02_TreeContinues.j2 kj21 l0 l1 l2 t631 true)) = some r := H
              have A42 := Aside0.mk A420
              clear A420
              have HC43 := Aside0.mk H
              clear H
              go_upto_region 7 with (first | ((with_reducible refine gate_callee (f := 13) rfl ?_); refine goesL_ (some 57) rfl rfl Tryd.func13 (by kernel_rfl) rfl #[.slice A1 l1.length c1, .int .i64 (l0.length : Int)] rfl (by (try simp only [List.map_toArray, List.map_cons, List.map_nil]); first | done | rfl | (simp only [List.length_drop, List.length_take]; rfl)) ?_; (with_reducible refine (tree_Link.calls kj21 (fun k_ => k_ < w.heap.size) _ _ l1 (l0.length : Int) t640 t643 _ ?side1 ?side2 A42.out).mono ?_); (case side1 => exact Kd.V_mk HC1.out (Kd.F_below (Kd.C_F Kd.heap_string HR1.out) (by first | exact upB HB.out | exact HB.out))); (case side2 => exact tabs_below HT.out (by first | exact upB HB.out | exact HB.out)); rintro e w44 ⟨v641, rfl, ho0, hb⟩; refine ⟨_, rfl, ?_⟩; have n0_ := Aside0.mk (Kd.R_lower (Kd.R_mono (ok' := fun k_ => True) ho0 (fun _ hk_ => trivial)) (below_size (by first | exact upB HB.out | exact HB.out))); have n1_ := Aside0.mk (below_step (by first | exact upB HB.out | exact HB.out) hb); clear HB; have HO642 := n0_; have HB := n1_; clear n0_ n1_; (try clear hb); (try clear hb2); (try clear hk); (try clear hi); (try clear ho0)))
              (try simp only [Act.put, List.setIfInBounds_toArray, List.set_cons_zero, List.set_cons_succ])
              go_cut [73] (fun v73 wc => ∃ (kq : Nat) (x73_42 : Bool), v73 = .bool x73_42 ∧ Aside0 (pandectlaw02_TreeContinues.j2 kq l0 l1 l2 t631 x73_42 = some r) ∧ Aside0 (kq ≤ kj21) ∧ Aside0 (Below w.heap.size w wc))
              case first =>
                have H := HC43.out
                clear HC43
                by_cases c45 : t643 = 0
                · rw [if_pos c45] at H
                  have c45b0 : (t643 == 0) = true := beq_iff_eq.mpr c45
                  have c45b1 : (t643 != 0) = false := bne_eq_false_iff_eq.mpr c45
                  clear c45
                  (first | rw [c45b0] | (simp only [i64_w, i32_w]; rw [c45b0]) | skip)
                  by_cases c46 : (t640.length : Int) = (l2.length : Int)
                  · rw [if_pos c46] at H
                    have c46b0 : ((t640.length : Int) == (l2.length : Int)) = true := beq_iff_eq.mpr c46
                    have c46b1 : ((t640.length : Int) != (l2.length : Int)) = false := bne_eq_false_iff_eq.mpr c46
                    have c46b2 : (t640.length == l2.length) = true := by first | simpa using c46 | (simp at c46 ⊢; omega)
                    clear c46
                    have H' := Aside0.mk H
                    clear H
                    obtain ⟨Ao47, co47, eo47⟩ := Kd.R_slice HO642.out
                    subst eo47
                    go_wp2
                    go_meet
                    case rel => exact ⟨_, (((l0.length : Int) == 0)), (by first | rfl | (simp; done) | (simp [*]; done)), H', ⟨by have := HJ4.out; have := HJ21.out; first | omega | exact Nat.le_refl _⟩, ⟨by first | exact upB HB.out | exact HB.out⟩⟩
                  · rw [if_neg c46] at H
                    have c46b0 : ((t640.length : Int) == (l2.length : Int)) = false := beq_eq_false_iff_ne.mpr c46
                    have c46b1 : ((t640.length : Int) != (l2.length : Int)) = true := bne_iff_ne.mpr c46
                    have c46b2 : (t640.length == l2.length) = false := by first | simpa using c46 | (simp at c46 ⊢; omega)
                    have H' := Aside0.mk H
                    clear H
                    obtain ⟨Ao48, co48, eo48⟩ := Kd.R_slice HO642.out
                    subst eo48
                    go_wp2
                    go_meet
                    case rel => exact ⟨_, (true), (by first | rfl | (simp; done) | (simp [*]; done)), H', ⟨by have := HJ4.out; have := HJ21.out; first | omega | exact Nat.le_refl _⟩, ⟨by first | exact upB HB.out | exact HB.out⟩⟩
                · rw [if_neg c45] at H
                  have c45b0 : (t643 == 0) = false := beq_eq_false_iff_ne.mpr c45
                  have c45b1 : (t643 != 0) = true := bne_iff_ne.mpr c45
                  (first | rw [c45b0] | (simp only [i64_w, i32_w]; rw [c45b0]) | skip)
                  have H' := Aside0.mk H
                  clear H
                  go_wp2
                  go_meet
                  case rel => exact ⟨_, (true), (by first | rfl | (simp; done) | (simp [*]; done)), H', ⟨by have := HJ4.out; have := HJ21.out; first | omega | exact Nat.le_refl _⟩, ⟨by first | exact upB HB.out | exact HB.out⟩⟩
              case rest =>
                clear HC43
                try clear c1
                try clear c2
                try clear p2
                try clear c4
                try clear c8
                try clear c9
                try clear c10
                try clear c12
                try clear c13
                try clear c15
                try clear c20
                try clear c21
                try clear c26
                try clear c27
                try clear c27b0
                try clear c27b1
                try clear c28
                try clear c28b0
                try clear c28b1
                try clear c41
                try clear c45
                try clear c45b0
                try clear c45b1
                try clear c46
                try clear c46b0
                try clear c46b1
                try clear c46b2
                try clear p2
                obtain ⟨kq, x73_42, rfl, HA, HJ42, HB⟩ := hcut
                cases kq with
                | zero => exact absurd HA.out (by simp [pandectlaw02_TreeContinues.j2])
                | succ kj42 =>
                  have H := HA.out
                  clear HA
                  simp only [pandectlaw02_TreeContinues.j2] at H
                  by_cases c49 : x73_42 = true
                  · subst c49
                    have H1 : (some false) = some r := by rw [if_pos rfl] at H; exact H
                    clear H
                    have H := H1
                    clear H1
                    obtain rfl := Option.some.inj H
                    go_wp2
                    go_ret
                    exact ⟨by first | rfl | (simp [errW_none, errW_some] <;> rfl) | (simp [*, errW_none, errW_some] <;> rfl), by first | exact upB HB.out | exact HB.out⟩
                  · replace c49 := Bool.eq_false_iff.mpr c49
                    subst c49
                    have H1 : ((pandectref02_Texts.f kj42 l0).bind fun t644 => ((pandectref02_Texts.f kj42 l1).bind fun t647 => (if t644.length + t647.length < 8796093022208 then ((some (t644 ++ t647 : List ByteArray)).bind fun y650 => (if 0 ≤ (l0.length : Int) then (if (l0.length : Int) ≤ (l1.length : Int) then ((pandectref02_Texts.f kj42 (l1.take ((l0.length : Int) : Int).toNat)).bind fun t654 => (if y650.length + t654.length < 8796093022208 then ((some (y650 ++ t654 : List ByteArray)).bind fun y657 => (if t631 = true then ((tree_Root.f kj42 l0).bind fun t660 => ((pandectref02_LinkTexts.f kj42 (l1.length : Int) (l0.length : Int) true t660 l2).bind fun t661 => (if y657.length + t661.length < 8796093022208 then ((pandectref02_Shown.f kj42 (y657 ++ t661)).bind fun t667 => (some t667)) else (none)))) else (some false))) else (none))) else (none)) else (none))) else (none)))) = some r := by rw [if_neg (show ¬ (false = true) by decide)] at H; exact H
                    clear H
                    have H := H1
                    clear H1
                    replace H := Option.bind_eq_some_iff.mp H
                    obtain ⟨t644, A500, H⟩ := H
                    replace H : ((pandectref02_Texts.f kj42 l1).bind fun t647 => (if t644.length + t647.length < 8796093022208 then ((some (t644 ++ t647 : List ByteArray)).bind fun y650 => (if 0 ≤ (l0.length : Int) then (if (l0.length : Int) ≤ (l1.length : Int) then ((pandectref02_Texts.f kj42 (l1.take ((l0.length : Int) : Int).toNat)).bind fun t654 => (if y650.length + t654.length < 8796093022208 then ((some (y650 ++ t654 : List ByteArray)).bind fun y657 => (if t631 = true then ((tree_Root.f kj42 l0).bind fun t660 => ((pandectref02_LinkTexts.f kj42 (l1.length : Int) (l0.length : Int) true t660 l2).bind fun t661 => (if y657.length + t661.length < 8796093022208 then ((pandectref02_Shown.f kj42 (y657 ++ t661)).bind fun t667 => (some t667)) else (none)))) else (some false))) else (none))) else (none)) else (none))) else (none))) = some r := H
                    have A50 := Aside0.mk A500
                    clear A500
                    replace H := Option.bind_eq_some_iff.mp H
                    obtain ⟨t647, A510, H⟩ := H
                    replace H : (if t644.length + t647.length < 8796093022208 then ((some (t644 ++ t647 : List ByteArray)).bind fun y650 => (if 0 ≤ (l0.length : Int) then (if (l0.length : Int) ≤ (l1.length : Int) then ((pandectref02_Texts.f kj42 (l1.take ((l0.length : Int) : Int).toNat)).bind fun t654 => (if y650.length + t654.length < 8796093022208 then ((some (y650 ++ t654 : List ByteArray)).bind fun y657 => (if t631 = true then ((tree_Root.f kj42 l0).bind fun t660 => ((pandectref02_LinkTexts.f kj42 (l1.length : Int) (l0.length : Int) true t660 l2).bind fun t661 => (if y657.length + t661.length < 8796093022208 then ((pandectref02_Shown.f kj42 (y657 ++ t661)).bind fun t667 => (some t667)) else (none)))) else (some false))) else (none))) else (none)) else (none))) else (none)) = some r := H
                    have A51 := Aside0.mk A510
                    clear A510
                    by_cases c52 : t644.length + t647.length < 8796093022208
                    · rw [if_pos c52] at H
                      have LMc52 := Aside0.mk c52
                      clear c52
                      obtain ⟨y650, hy650⟩ : ∃ y_ : List ByteArray, y_ = (t644 ++ t647) := ⟨_, rfl⟩
                      replace H : (if 0 ≤ (l0.length : Int) then (if (l0.length : Int) ≤ (l1.length : Int) then ((pandectref02_Texts.f kj42 (l1.take ((l0.length : Int) : Int).toNat)).bind fun t654 => (if y650.length + t654.length < 8796093022208 then ((some (y650 ++ t654 : List ByteArray)).bind fun y657 => (if t631 = true then ((tree_Root.f kj42 l0).bind fun t660 => ((pandectref02_LinkTexts.f kj42 (l1.length : Int) (l0.length : Int) true t660 l2).bind fun t661 => (if y657.length + t661.length < 8796093022208 then ((pandectref02_Shown.f kj42 (y657 ++ t661)).bind fun t667 => (some t667)) else (none)))) else (some false))) else (none))) else (none)) else (none)) = some r := by first | (rw [hy650]; with_reducible exact H) | (have H2_ := (Option.bind_some _ _).symm.trans H; rw [hy650]; with_reducible exact H2_) | (have H2_ := (Option.bind_some _ _).symm.trans H; with_reducible exact H2_) | with_reducible exact H | (rw [hy650]; exact H) | exact H
                      have Ny650 := Aside0.mk hy650
                      clear hy650
                      by_cases c53 : 0 ≤ (l0.length : Int)
                      · rw [if_pos c53] at H
                        have c53b0 := eq_true c53
                        have c53b1 : decide (0 ≤ (l0.length : Int)) = true := decide_eq_true c53
                        clear c53
                        by_cases c54 : (l0.length : Int) ≤ (l1.length : Int)
                        · rw [if_pos c54] at H
                          have c54b0 := eq_true c54
                          have c54b1 : decide ((l0.length : Int) ≤ (l1.length : Int)) = true := decide_eq_true c54
                          clear c54
                          replace H := Option.bind_eq_some_iff.mp H
                          obtain ⟨t654, A550, H⟩ := H
                          replace H : (if y650.length + t654.length < 8796093022208 then ((some (y650 ++ t654 : List ByteArray)).bind fun y657 => (if t631 = true then ((tree_Root.f kj42 l0).bind fun t660 => ((pandectref02_LinkTexts.f kj42 (l1.length : Int) (l0.length : Int) true t660 l2).bind fun t661 => (if y657.length + t661.length < 8796093022208 then ((pandectref02_Shown.f kj42 (y657 ++ t661)).bind fun t667 => (some t667)) else (none)))) else (some false))) else (none)) = some r := H
                          have A55 := Aside0.mk A550
                          clear A550
                          by_cases c56 : y650.length + t654.length < 8796093022208
                          · rw [if_pos c56] at H
                            have LMc56 := Aside0.mk c56
                            clear c56
                            obtain ⟨y657, hy657⟩ : ∃ y_ : List ByteArray, y_ = (y650 ++ t654) := ⟨_, rfl⟩
                            replace H : (if t631 = true then ((tree_Root.f kj42 l0).bind fun t660 => ((pandectref02_LinkTexts.f kj42 (l1.length : Int) (l0.length : Int) true t660 l2).bind fun t661 => (if y657.length + t661.length < 8796093022208 then ((pandectref02_Shown.f kj42 (y657 ++ t661)).bind fun t667 => (some t667)) else (none)))) else (some false)) = some r := by first | (rw [hy657]; with_reducible exact H) | (have H2_ := (Option.bind_some _ _).symm.trans H; rw [hy657]; with_reducible exact H2_) | (have H2_ := (Option.bind_some _ _).symm.trans H; with_reducible exact H2_) | with_reducible exact H | (rw [hy657]; exact H) | exact H
                            have Ny657 := Aside0.mk hy657
                            clear hy657
                            by_cases c57 : t631 = true
                            · subst c57
                              have H1 : ((tree_Root.f kj42 l0).bind fun t660 => ((pandectref02_LinkTexts.f kj42 (l1.length : Int) (l0.length : Int) true t660 l2).bind fun t661 => (if y657.length + t661.length < 8796093022208 then ((pandectref02_Shown.f kj42 (y657 ++ t661)).bind fun t667 => (some t667)) else (none)))) = some r := by rw [if_pos rfl] at H; exact H
                              clear H
                              have H := H1
                              clear H1
                              replace H := Option.bind_eq_some_iff.mp H
                              obtain ⟨t660, A580, H⟩ := H
                              replace H : ((pandectref02_LinkTexts.f kj42 (l1.length : Int) (l0.length : Int) true t660 l2).bind fun t661 => (if y657.length + t661.length < 8796093022208 then ((pandectref02_Shown.f kj42 (y657 ++ t661)).bind fun t667 => (some t667)) else (none))) = some r := H
                              have A58 := Aside0.mk A580
                              clear A580
                              replace H := Option.bind_eq_some_iff.mp H
                              obtain ⟨t661, A590, H⟩ := H
                              replace H : (if y657.length + t661.length < 8796093022208 then ((pandectref02_Shown.f kj42 (y657 ++ t661)).bind fun t667 => (some t667)) else (none)) = some r := H
                              have A59 := Aside0.mk A590
                              clear A590
                              by_cases c60 : y657.length + t661.length < 8796093022208
                              · rw [if_pos c60] at H
                                have LMc60 := Aside0.mk c60
                                clear c60
                                obtain ⟨y664, hy664⟩ : ∃ y_ : List ByteArray, y_ = (y657 ++ t661) := ⟨_, rfl⟩
                                replace H : ((pandectref02_Shown.f kj42 y664).bind fun t667 => (some t667)) = some r := by first | (rw [hy664]; with_reducible exact H) | (have H2_ := (Option.bind_some _ _).symm.trans H; rw [hy664]; with_reducible exact H2_) | (have H2_ := (Option.bind_some _ _).symm.trans H; with_reducible exact H2_) | with_reducible exact H | (rw [hy664]; exact H) | exact H
                                have Ny664 := Aside0.mk hy664
                                clear hy664
                                replace H := Option.bind_eq_some_iff.mp H
                                obtain ⟨t667, A610, H⟩ := H
                                replace H : (some t667) = some r := H
                                have A61 := Aside0.mk A610
                                clear A610
                                obtain rfl := Option.some.inj H
                                try go_wp2
                                have n0_ := Aside0.mk (below_drew1 HB.out)
                                clear HB
                                have HB := n0_
                                clear n0_
                                (try clear hcut33)
                                obtain ⟨i063, hi063, _, hsz63, _⟩ := info_parts info9
                                obtain ⟨hcut63, hA63, hC63⟩ := print_take_of (P := Tryd.prog) Value.string (⟨#[]⟩ : ByteArray) 22 9 .i64 Tryd.underlying22 hi063 hsz63 A1 c1 l1 (l0.length : Int) (of_decide_eq_true (by first | (with_reducible assumption) | assumption)) (of_decide_eq_true (by first | (with_reducible assumption) | assumption)) HC1.out
                                have HR653 := Aside0.mk (Kd.C_of_reads (h1 := fun _ => rfl) (hA63 _ (Kd.reads_of_C HR1.out)))
                                have HC653 := Aside0.mk hC63
                                clear hA63 hC63 hi063 hsz63
                                refine start_ (n := 12) (S := fun w' => True) (ds := []) #[false, false, false, false, false, false, false, false, false, false, false, false] (by kernel_rfl) rfl rfl trivial (fun hHeld => ?_); refine with_tabW pandectlaw02_TreeContinues.tab9 pandectlaw02_TreeContinues.bits9 (fun HT_ HW_ => ?_)
                                generalize wc.drew = w62 at HB HR653 hHeld ⊢
                                refine pure_ (i := 0) (N := some 74) (v := ?_) (a' := ?_) #[true, false, false, false, false, false, false, false, false, false, false, false] rfl rfl (any_of HT_.out (by kernel_rfl)) (fun _ _ _ h => h) (Or.inl ⟨by rfl, ?_⟩) ?_ ?_
                                rotate_left
                                · intro w'
                                  go_simp
                                  with_reducible rfl
                                rotate_left
                                · simp only [Act.put, List.setIfInBounds_toArray, List.set_cons_zero, List.set_cons_succ, i64_w, i32_w]
                                  rfl
                                refine pure_ (i := 2) (N := some 76) (v := ?_) (a' := ?_) #[true, false, true, false, false, false, false, false, false, false, false, false] rfl rfl (any_of HT_.out (by kernel_rfl)) (fun _ _ _ h => h) (Or.inl ⟨by rfl, ?_⟩) ?_ ?_
                                rotate_left
                                · intro w'
                                  go_simp
                                  with_reducible rfl
                                rotate_left
                                · simp only [Act.put, List.setIfInBounds_toArray, List.set_cons_zero, List.set_cons_succ, i64_w, i32_w]
                                  rfl
                                refine pure_ (i := 5) (N := some 79) (v := ?_) (a' := ?_) #[true, false, true, false, false, true, false, false, false, false, false, false] rfl rfl (any_of HT_.out (by kernel_rfl)) (fun _ _ _ h => h) (Or.inl ⟨by rfl, ?_⟩) ?_ ?_
                                rotate_left
                                · intro w'
                                  go_simp
                                  with_reducible rfl
                                rotate_left
                                · simp only [Act.put, List.setIfInBounds_toArray, List.set_cons_zero, List.set_cons_succ, i64_w, i32_w]
                                  rfl
                                refine pure_ (i := 6) (N := some 80) (v := ?_) (a' := ?_) #[true, false, true, false, false, true, true, false, false, false, false, false] rfl rfl (any_of HT_.out (by kernel_rfl)) (fun _ _ _ h => h) (Or.inl ⟨by rfl, ?_⟩) ?_ ?_
                                rotate_left
                                · intro w'
                                  go_simp
                                  with_reducible rfl
                                rotate_left
                                · simp only [Act.put, List.setIfInBounds_toArray, List.set_cons_zero, List.set_cons_succ, i64_w, i32_w]
                                  rfl
                                refine pure_ (i := 7) (N := some 81) (v := ?_) (a' := ?_) #[true, false, true, false, false, true, true, true, false, false, false, false] rfl rfl (any_of HT_.out (by kernel_rfl)) (fun _ _ _ h => h) (Or.inl ⟨by rfl, ?_⟩) ?_ ?_
                                rotate_left
                                · intro w'
                                  go_simp
                                  with_reducible rfl
                                rotate_left
                                · simp only [Act.put, List.setIfInBounds_toArray, List.set_cons_zero, List.set_cons_succ, i64_w, i32_w]
                                  rfl
                                refine pure_ (i := 8) (N := some 82) (v := ?_) (a' := ?_) #[true, false, true, false, false, true, true, true, true, false, false, false] rfl rfl (any_of HT_.out (by kernel_rfl)) (fun _ _ _ h => h) (Or.inl ⟨by rfl, ?_⟩) ?_ ?_
                                rotate_left
                                · intro w'
                                  go_simp
                                  with_reducible rfl
                                rotate_left
                                · simp only [Act.put, List.setIfInBounds_toArray, List.set_cons_zero, List.set_cons_succ, i64_w, i32_w]
                                  rfl
                                refine one_ (i := 1) (N := some 75) #[true, true, true, false, false, true, true, true, true, false, false, false] rfl rfl (one_of HT_.out (by kernel_rfl)) (by decide) (fun K hK => ?_)
                                refine goes_ Tryd.func23 (by kernel_rfl) rfl #[.slice A0 l0.length c0] (by rfl) rfl rfl (by (try simp only [List.map_toArray, List.map_cons, List.map_nil]); first | done | rfl | (simp only [List.length_drop, List.length_take]; rfl)) ?_
                                with_reducible refine (pandectref02_Texts.calls kj42 _ _ l0 t644 _ ?side1 ?side2 A50.out).mono ?_
                                (case side1 => exact upC ((Kd.C_below HR0.out HB.out)))
                                (case side2 => exact HC0.out)
                                rintro e w64 ⟨v645, rfl, ho0, hb⟩
                                refine ⟨_, rfl, ?_⟩
                                have n0_ := Aside0.mk (Kd.R_lower ho0 (below_size (by first | exact upB HB.out | exact HB.out)))
                                have n1_ := Aside0.mk (below_step (by first | exact upB HB.out | exact HB.out) hb)
                                clear HB
                                have HO646 := n0_
                                have HB := n1_
                                clear n0_ n1_
                                (try clear hb)
                                (try clear hb2)
                                (try clear hk)
                                (try clear hi)
                                (try clear ho0)
                                refine hK.out _ _ trivial (fun hHeld => ?_)
                                clear hK K
                                refine norm_ (a' := ?_) ?_ ?_
                                rotate_left
                                · show Act.put _ (some 75) _ = _
                                  simp only [Act.put, List.setIfInBounds_toArray, List.set_cons_zero, List.set_cons_succ, i64_w, i32_w]
                                  rfl
                                refine one_ (i := 3) (N := some 77) #[true, true, true, true, false, true, true, true, true, false, false, false] rfl rfl (one_of HT_.out (by kernel_rfl)) (by decide) (fun K hK => ?_)
                                refine goes_ Tryd.func23 (by kernel_rfl) rfl #[.slice A1 l1.length c1] (by rfl) rfl rfl (by (try simp only [List.map_toArray, List.map_cons, List.map_nil]); first | done | rfl | (simp only [List.length_drop, List.length_take]; rfl)) ?_
                                with_reducible refine (pandectref02_Texts.calls kj42 _ _ l1 t647 _ ?side1 ?side2 A51.out).mono ?_
                                (case side1 => exact upC ((Kd.C_below HR1.out HB.out)))
                                (case side2 => exact HC1.out)
                                rintro e w65 ⟨v648, rfl, ho0, hb⟩
                                refine ⟨_, rfl, ?_⟩
                                have n0_ := Aside0.mk (Kd.R_elder' (by exact upR HO646.out) (Kd.R_base ho0) hb)
                                have n1_ := Aside0.mk (Kd.R_lower (Kd.R_new' ho0 (Kd.R_lt (by exact upR HO646.out))) (below_size (by first | exact upB HB.out | exact HB.out)))
                                have n2_ := Aside0.mk (below_step (by first | exact upB HB.out | exact HB.out) hb)
                                clear HO646
                                clear HB
                                have HO646 := n0_
                                have HO649 := n1_
                                have HB := n2_
                                clear n0_ n1_ n2_
                                (try clear hb)
                                (try clear hb2)
                                (try clear hk)
                                (try clear hi)
                                (try clear ho0)
                                obtain ⟨Ao67, co67, eo67⟩ := Kd.R_slice HO649.out
                                (first | subst eo67 | (injection eo67 with f1_ f2_ f3_; have f4_ := f1_.symm; have f5_ := f3_.symm; clear f1_ f2_ f3_; subst f4_; subst f5_))
                                refine hK.out _ _ trivial (fun hHeld => ?_)
                                clear hK K
                                refine norm_ (a' := ?_) ?_ ?_
                                rotate_left
                                · show Act.put _ (some 77) _ = _
                                  simp only [Act.put, List.setIfInBounds_toArray, List.set_cons_zero, List.set_cons_succ, i64_w, i32_w]
                                  rfl
                                refine one_ (i := 4) (N := some 78) #[true, true, true, true, true, true, true, true, true, false, false, false] rfl rfl (one_of HT_.out (by kernel_rfl)) (by decide) (fun K hK => ?_)
                                refine Kd.R_append_rows_step Kd.string (w0 := w) w.heap.size (by rfl) (.tmp 75) (.tmp 77) 22 9 (.string ⟨#[]⟩) 16 rfl Tryd.underlying22 info9 rfl (by decide) (by omega) v645 t644 t647 _ _ _ (fun k_ => some k_ ≠ (.slice Ao67 t647.length co67 : Value).ownBlock) (fun _ => False) rfl rfl ?aO ?aR (fun _ _ h => h) (fun _ h => h.elim) ?aF ?aB ?aS ?aL ?_
                                (case aR => exact upC ((Kd.R_reads' HO649.out).2.2))
                                (case aB => exact (by first | exact upB HB.out | exact HB.out))
                                (case aF => exact (fun k_ hk => Kd.fresh' (Kd.R_lt (by exact upR HO649.out)) k_ hk))
                                (case aO => exact (by (with_reducible repeat (first | apply Kd.R_alloc | apply Kd.R_drewN | apply Kd.R_drew)); exact Kd.R_mono HO646.out (fun _ hk => hk.2)))
                                (case aS => exact (below_size (by first | exact upB HB.out | exact HB.out)))
                                (case aL => have := LMc52.out; omega)
                                intro v651 w66 ho hb hg hat
                                rw [← Ny650.out] at ho
                                have n0_ := Aside0.mk (Kd.R_after (ok := (fun _ => True)) (by exact upR HO649.out) hg hat)
                                have n1_ := Aside0.mk (hb)
                                have n2_ := Aside0.mk (ho)
                                clear HO649
                                clear HB
                                clear HO646
                                have HO649 := n0_
                                have HB := n1_
                                have HO652 := n2_
                                clear n0_ n1_ n2_
                                clear ho hb hg hat
                                refine hK.out _ _ trivial (fun hHeld => ?_)
                                clear hK K
                                refine norm_ (a' := ?_) ?_ ?_
                                rotate_left
                                · show Act.put _ (some 78) _ = _
                                  simp only [Act.put, List.setIfInBounds_toArray, List.set_cons_zero, List.set_cons_succ, i64_w, i32_w]
                                  rfl
                                refine one_ (i := 9) (N := some 83) #[true, true, true, true, true, true, true, true, true, true, false, false] rfl rfl (one_of HT_.out (by kernel_rfl)) (by decide) (fun K hK => ?_)
                                refine goes_ Tryd.func23 (by kernel_rfl) rfl #[.slice A1 (l1.take ((l0.length : Int) : Int).toNat).length c1] (by rfl) rfl rfl (by (try simp only [List.map_toArray, List.map_cons, List.map_nil]); first | done | (rw [show (l1.take ((l0.length : Int) : Int).toNat).length = (l0.length : Int).toNat from (by rw [List.length_take]; have h_ : ((l0.length : Int) : Int) ≤ (l1.length : Int) := of_decide_eq_true (by first | (with_reducible assumption) | assumption); omega)] <;> rfl) | rfl | (simp only [List.length_drop, List.length_take]; rfl)) ?_
                                with_reducible refine (pandectref02_Texts.calls kj42 _ _ (l1.take ((l0.length : Int) : Int).toNat) t654 _ ?side1 ?side2 A55.out).mono ?_
                                (case side1 => exact upC ((Kd.C_below HR653.out HB.out)))
                                (case side2 => exact HC653.out)
                                rintro e w68 ⟨v655, rfl, ho0, hb⟩
                                refine ⟨_, rfl, ?_⟩
                                have n0_ := Aside0.mk (Kd.R_elder' (by exact upR HO649.out) (Kd.R_base ho0) hb)
                                have n1_ := Aside0.mk (Kd.R_elder' (by exact upR HO652.out) (Kd.R_base ho0) hb)
                                have n2_ := Aside0.mk (Kd.R_lower (Kd.R_new' (Kd.R_new' ho0 (Kd.R_lt (by exact upR HO649.out))) (Kd.R_lt (by exact upR HO652.out))) (below_size (by first | exact upB HB.out | exact HB.out)))
                                have n3_ := Aside0.mk (below_step (by first | exact upB HB.out | exact HB.out) hb)
                                clear HO649
                                clear HO652
                                clear HB
                                have HO649 := n0_
                                have HO652 := n1_
                                have HO656 := n2_
                                have HB := n3_
                                clear n0_ n1_ n2_ n3_
                                (try clear hb)
                                (try clear hb2)
                                (try clear hk)
                                (try clear hi)
                                (try clear ho0)
                                obtain ⟨Ao70, co70, eo70⟩ := Kd.R_slice HO656.out
                                (first | subst eo70 | (injection eo70 with f1_ f2_ f3_; have f4_ := f1_.symm; have f5_ := f3_.symm; clear f1_ f2_ f3_; subst f4_; subst f5_))
                                refine hK.out _ _ trivial (fun hHeld => ?_)
                                clear hK K
                                refine norm_ (a' := ?_) ?_ ?_
                                rotate_left
                                · show Act.put _ (some 83) _ = _
                                  simp only [Act.put, List.setIfInBounds_toArray, List.set_cons_zero, List.set_cons_succ, i64_w, i32_w]
                                  rfl
                                refine one_ (i := 10) (N := some 84) #[true, true, true, true, true, true, true, true, true, true, true, false] rfl rfl (one_of HT_.out (by kernel_rfl)) (by decide) (fun K hK => ?_)
                                refine Kd.R_append_rows_step Kd.string (w0 := w) w.heap.size (by rfl) (.tmp 78) (.tmp 83) 22 9 (.string ⟨#[]⟩) 16 rfl Tryd.underlying22 info9 rfl (by decide) (by omega) v651 y650 t654 _ _ _ (fun k_ => some k_ ≠ (.slice Ao67 t647.length co67 : Value).ownBlock ∧ some k_ ≠ (.slice Ao70 t654.length co70 : Value).ownBlock) (fun _ => False) rfl rfl ?aO ?aR (fun _ _ h => h) (fun _ h => h.elim) ?aF ?aB ?aS ?aL ?_
                                (case aR => exact upC ((Kd.R_reads' HO656.out).2.2))
                                (case aB => exact (by first | exact upB HB.out | exact HB.out))
                                (case aF => exact (fun k_ hk => ⟨Kd.fresh' (Kd.R_lt (by exact upR HO649.out)) k_ hk, Kd.fresh' (Kd.R_lt (by exact upR HO656.out)) k_ hk⟩))
                                (case aO => exact (by exact upR HO652.out))
                                (case aS => exact (below_size (by first | exact upB HB.out | exact HB.out)))
                                (case aL => have := LMc56.out; omega)
                                intro v658 w69 ho hb hg hat
                                rw [← Ny657.out] at ho
                                have n0_ := Aside0.mk (Kd.R_after (ok := (fun k_ => some k_ ≠ (.slice Ao70 t654.length co70 : Value).ownBlock)) (by (with_reducible repeat (first | apply Kd.R_alloc | apply Kd.R_drewN | apply Kd.R_drew)); exact Kd.R_mono HO649.out (fun _ hk => ⟨hk.2, hk.1.2⟩)) hg hat)
                                have n1_ := Aside0.mk (Kd.R_after (ok := (fun k_ => some k_ ≠ (.slice Ao67 t647.length co67 : Value).ownBlock)) (by (with_reducible repeat (first | apply Kd.R_alloc | apply Kd.R_drewN | apply Kd.R_drew)); exact Kd.R_mono HO656.out (fun _ hk => ⟨hk.1.2, hk.2⟩)) hg hat)
                                have n2_ := Aside0.mk (hb)
                                have n3_ := Aside0.mk (ho)
                                clear HO649
                                clear HO656
                                clear HB
                                clear HO652
                                have HO649 := n0_
                                have HO656 := n1_
                                have HB := n2_
                                have HO659 := n3_
                                clear n0_ n1_ n2_ n3_
                                clear ho hb hg hat
                                refine hK.out _ _ trivial (fun hHeld => ?_)
                                clear hK K
                                refine norm_ (a' := ?_) ?_ ?_
                                rotate_left
                                · show Act.put _ (some 84) _ = _
                                  simp only [Act.put, List.setIfInBounds_toArray, List.set_cons_zero, List.set_cons_succ, i64_w, i32_w]
                                  rfl
                                refine pure_ (i := 11) (N := some 10) (v := ?_) (a' := ?_) #[true, true, true, true, true, true, true, true, true, true, true, true] rfl rfl (any_of HT_.out (by kernel_rfl)) (fun _ _ _ h => h) (Or.inl ⟨by rfl, ?_⟩) ?_ ?_
                                rotate_left
                                · intro w'
                                  go_simp
                                  with_reducible rfl
                                rotate_left
                                · simp only [Act.put, List.setIfInBounds_toArray, List.set_cons_zero, List.set_cons_succ, i64_w, i32_w]
                                  rfl
                                refine done_ (done_of HT_.out (by kernel_rfl)) ?_
                                try go_wp2_with (first | (go_at_call 15; (with_reducible refine (tree_Root.calls kj42 _ _ l0 t660 _ ?side1 ?side2 ?side3 A58.out).mono ?_); (case side1 => exact upC ((Kd.C_below HR0.out HB.out))); (case side2 => exact HC0.out); (case side3 => exact tabs_below HT.out (by first | exact upB HB.out | exact HB.out)); rintro e w71 ⟨rfl, hb⟩; have n0_ := Aside0.mk (Kd.R_below (by exact upR HO649.out) hb); have n1_ := Aside0.mk (Kd.R_below (by exact upR HO656.out) hb); have n2_ := Aside0.mk (Kd.R_below (by exact upR HO659.out) hb); have n3_ := Aside0.mk (below_step (by first | exact upB HB.out | exact HB.out) hb); clear HO649; clear HO656; clear HO659; clear HB; have HO649 := n0_; have HO656 := n1_; have HO659 := n2_; have HB := n3_; clear n0_ n1_ n2_ n3_; (try clear hb); (try clear hb2); (try clear hk); (try clear hi)) | (go_at_call 25; (with_reducible refine (pandectref02_LinkTexts.calls kj42 (l1.length : Int) (l0.length : Int) true t660 _ _ l2 t661 _ ?side1 ?side2 A59.out).mono ?_); (case side1 => exact upC ((Kd.C_below HR2.out HB.out))); (case side2 => exact HC2.out); rintro e w72 ⟨v662, rfl, ho0, hb⟩; have n0_ := Aside0.mk (Kd.R_elder' (by exact upR HO649.out) (Kd.R_base ho0) hb); have n1_ := Aside0.mk (Kd.R_elder' (by exact upR HO656.out) (Kd.R_base ho0) hb); have n2_ := Aside0.mk (Kd.R_elder' (by exact upR HO659.out) (Kd.R_base ho0) hb); have n3_ := Aside0.mk (Kd.R_lower (Kd.R_new' (Kd.R_new' (Kd.R_new' ho0 (Kd.R_lt (by exact upR HO649.out))) (Kd.R_lt (by exact upR HO656.out))) (Kd.R_lt (by exact upR HO659.out))) (below_size (by first | exact upB HB.out | exact HB.out))); have n4_ := Aside0.mk (below_step (by first | exact upB HB.out | exact HB.out) hb); clear HO649; clear HO656; clear HO659; clear HB; have HO649 := n0_; have HO656 := n1_; have HO659 := n2_; have HO663 := n3_; have HB := n4_; clear n0_ n1_ n2_ n3_ n4_; (try clear hb); (try clear hb2); (try clear hk); (try clear hi); (try clear ho0); obtain ⟨Ao74, co74, eo74⟩ := Kd.R_slice HO663.out; subst eo74) | ((with_reducible refine gate_builtin (b := .append) (xs := #[.tmp 87, .tmp 95]) rfl ?_); (try (refine gate_guard (by rfl) ?_; dsimp only)); at_builtin; refine Kd.R_append_rows Kd.string (w0 := w) w.heap.size rfl (.tmp 87) (.tmp 95) 22 9 (.string ⟨#[]⟩) 16 rfl Tryd.underlying22 info9 rfl (by decide) (by omega) v658 y657 t661 _ _ _ (fun k_ => some k_ ≠ (.slice Ao67 t647.length co67 : Value).ownBlock ∧ some k_ ≠ (.slice Ao70 t654.length co70 : Value).ownBlock ∧ some k_ ≠ (.slice Ao74 t661.length co74 : Value).ownBlock) (fun _ => False) rfl rfl ?aO ?aR (fun _ _ h => h) (fun _ h => h.elim) ?aF ?aB ?aS ?aL ?_; (case aR => exact upC ((Kd.R_reads' HO663.out).2.2)); (case aB => exact (by first | exact upB HB.out | exact HB.out)); (case aF => exact (fun k_ hk => ⟨Kd.fresh' (Kd.R_lt (by exact upR HO649.out)) k_ hk, Kd.fresh' (Kd.R_lt (by exact upR HO656.out)) k_ hk, Kd.fresh' (Kd.R_lt (by exact upR HO663.out)) k_ hk⟩)); (case aO => exact (by (with_reducible repeat (first | apply Kd.R_alloc | apply Kd.R_drewN | apply Kd.R_drew)); exact Kd.R_mono HO659.out (fun _ hk => ⟨hk.1.1, ⟨hk.1.2, hk.2⟩⟩))); (case aS => exact (below_size (by first | exact upB HB.out | exact HB.out))); (case aL => have := LMc60.out; omega); intro v665 w73 ho hb hg hat; rw [← Ny664.out] at ho; have n0_ := Aside0.mk (Kd.R_after (ok := (fun k_ => some k_ ≠ (.slice Ao70 t654.length co70 : Value).ownBlock ∧ some k_ ≠ (.slice Ao74 t661.length co74 : Value).ownBlock)) (by (with_reducible repeat (first | apply Kd.R_alloc | apply Kd.R_drewN | apply Kd.R_drew)); exact Kd.R_mono HO649.out (fun _ hk => ⟨⟨hk.1.1, hk.2⟩, hk.1.2⟩)) hg hat); have n1_ := Aside0.mk (Kd.R_after (ok := (fun k_ => some k_ ≠ (.slice Ao67 t647.length co67 : Value).ownBlock ∧ some k_ ≠ (.slice Ao74 t661.length co74 : Value).ownBlock)) (by (with_reducible repeat (first | apply Kd.R_alloc | apply Kd.R_drewN | apply Kd.R_drew)); exact Kd.R_mono HO656.out (fun _ hk => ⟨⟨hk.1.1, hk.2⟩, hk.1.2⟩)) hg hat); have n2_ := Aside0.mk (Kd.R_after (ok := (fun k_ => some k_ ≠ (.slice Ao67 t647.length co67 : Value).ownBlock ∧ some k_ ≠ (.slice Ao70 t654.length co70 : Value).ownBlock)) (by (with_reducible repeat (first | apply Kd.R_alloc | apply Kd.R_drewN | apply Kd.R_drew)); exact Kd.R_mono HO663.out (fun _ hk => ⟨⟨hk.1.1.2, hk.1.2⟩, hk.2⟩)) hg hat); have n3_ := Aside0.mk (hb); have n4_ := Aside0.mk (ho); clear HO649; clear HO656; clear HO663; clear HB; clear HO659; have HO649 := n0_; have HO656 := n1_; have HO663 := n2_; have HB := n3_; have HO666 := n4_; clear n0_ n1_ n2_ n3_ n4_; clear ho hb hg hat; obtain ⟨Ao75, co75, eo75⟩ := Kd.R_slice HO666.out; subst eo75) | (go_at_call 22; (with_reducible refine (pandectref02_Shown.calls kj42 _ _ y664 t667 _ ?side1 ?side2 A61.out).mono ?_); (case side1 => exact upC ((Kd.R_reads' HO666.out).2.2)); (case side2 => exact (Kd.R_reads' HO666.out).2.1); rintro e w76 ⟨rfl, hb⟩; have n0_ := Aside0.mk (Kd.R_below (by exact upR HO649.out) hb); have n1_ := Aside0.mk (Kd.R_below (by exact upR HO656.out) hb); have n2_ := Aside0.mk (Kd.R_below (by exact upR HO663.out) hb); have n3_ := Aside0.mk (Kd.R_below (by exact upR HO666.out) hb); have n4_ := Aside0.mk (below_step (by first | exact upB HB.out | exact HB.out) hb); clear HO649; clear HO656; clear HO663; clear HO666; clear HB; have HO649 := n0_; have HO656 := n1_; have HO663 := n2_; have HO666 := n3_; have HB := n4_; clear n0_ n1_ n2_ n3_ n4_; (try clear hb); (try clear hb2); (try clear hk); (try clear hi)))
                                go_ret
                                exact ⟨by first | rfl | (simp [errW_none, errW_some] <;> rfl) | (simp [*, errW_none, errW_some] <;> rfl), by first | exact upB HB.out | exact HB.out⟩
                              · rw [if_neg c60] at H
                                exact absurd H (by simp)
                            · replace c57 := Bool.eq_false_iff.mpr c57
                              subst c57
                              have H1 : (some false) = some r := by rw [if_neg (show ¬ (false = true) by decide)] at H; exact H
                              clear H
                              have H := H1
                              clear H1
                              obtain rfl := Option.some.inj H
                              try go_wp2
                              have n0_ := Aside0.mk (below_drew1 HB.out)
                              clear HB
                              have HB := n0_
                              clear n0_
                              (try clear hcut33)
                              (try clear hcut63)
                              obtain ⟨i078, hi078, _, hsz78, _⟩ := info_parts info9
                              obtain ⟨hcut78, hA78, hC78⟩ := print_take_of (P := Tryd.prog) Value.string (⟨#[]⟩ : ByteArray) 22 9 .i64 Tryd.underlying22 hi078 hsz78 A1 c1 l1 (l0.length : Int) (of_decide_eq_true (by first | (with_reducible assumption) | assumption)) (of_decide_eq_true (by first | (with_reducible assumption) | assumption)) HC1.out
                              have HR653 := Aside0.mk (Kd.C_of_reads (h1 := fun _ => rfl) (hA78 _ (Kd.reads_of_C HR1.out)))
                              have HC653 := Aside0.mk hC78
                              clear hA78 hC78 hi078 hsz78
                              refine start_ (n := 12) (S := fun w' => True) (ds := []) #[false, false, false, false, false, false, false, false, false, false, false, false] (by kernel_rfl) rfl rfl trivial (fun hHeld => ?_); refine with_tabW pandectlaw02_TreeContinues.tab9 pandectlaw02_TreeContinues.bits9 (fun HT_ HW_ => ?_)
                              generalize wc.drew = w77 at HB HR653 hHeld ⊢
                              refine pure_ (i := 0) (N := some 74) (v := ?_) (a' := ?_) #[true, false, false, false, false, false, false, false, false, false, false, false] rfl rfl (any_of HT_.out (by kernel_rfl)) (fun _ _ _ h => h) (Or.inl ⟨by rfl, ?_⟩) ?_ ?_
                              rotate_left
                              · intro w'
                                go_simp
                                with_reducible rfl
                              rotate_left
                              · simp only [Act.put, List.setIfInBounds_toArray, List.set_cons_zero, List.set_cons_succ, i64_w, i32_w]
                                rfl
                              refine pure_ (i := 2) (N := some 76) (v := ?_) (a' := ?_) #[true, false, true, false, false, false, false, false, false, false, false, false] rfl rfl (any_of HT_.out (by kernel_rfl)) (fun _ _ _ h => h) (Or.inl ⟨by rfl, ?_⟩) ?_ ?_
                              rotate_left
                              · intro w'
                                go_simp
                                with_reducible rfl
                              rotate_left
                              · simp only [Act.put, List.setIfInBounds_toArray, List.set_cons_zero, List.set_cons_succ, i64_w, i32_w]
                                rfl
                              refine pure_ (i := 5) (N := some 79) (v := ?_) (a' := ?_) #[true, false, true, false, false, true, false, false, false, false, false, false] rfl rfl (any_of HT_.out (by kernel_rfl)) (fun _ _ _ h => h) (Or.inl ⟨by rfl, ?_⟩) ?_ ?_
                              rotate_left
                              · intro w'
                                go_simp
                                with_reducible rfl
                              rotate_left
                              · simp only [Act.put, List.setIfInBounds_toArray, List.set_cons_zero, List.set_cons_succ, i64_w, i32_w]
                                rfl
                              refine pure_ (i := 6) (N := some 80) (v := ?_) (a' := ?_) #[true, false, true, false, false, true, true, false, false, false, false, false] rfl rfl (any_of HT_.out (by kernel_rfl)) (fun _ _ _ h => h) (Or.inl ⟨by rfl, ?_⟩) ?_ ?_
                              rotate_left
                              · intro w'
                                go_simp
                                with_reducible rfl
                              rotate_left
                              · simp only [Act.put, List.setIfInBounds_toArray, List.set_cons_zero, List.set_cons_succ, i64_w, i32_w]
                                rfl
                              refine pure_ (i := 7) (N := some 81) (v := ?_) (a' := ?_) #[true, false, true, false, false, true, true, true, false, false, false, false] rfl rfl (any_of HT_.out (by kernel_rfl)) (fun _ _ _ h => h) (Or.inl ⟨by rfl, ?_⟩) ?_ ?_
                              rotate_left
                              · intro w'
                                go_simp
                                with_reducible rfl
                              rotate_left
                              · simp only [Act.put, List.setIfInBounds_toArray, List.set_cons_zero, List.set_cons_succ, i64_w, i32_w]
                                rfl
                              refine pure_ (i := 8) (N := some 82) (v := ?_) (a' := ?_) #[true, false, true, false, false, true, true, true, true, false, false, false] rfl rfl (any_of HT_.out (by kernel_rfl)) (fun _ _ _ h => h) (Or.inl ⟨by rfl, ?_⟩) ?_ ?_
                              rotate_left
                              · intro w'
                                go_simp
                                with_reducible rfl
                              rotate_left
                              · simp only [Act.put, List.setIfInBounds_toArray, List.set_cons_zero, List.set_cons_succ, i64_w, i32_w]
                                rfl
                              refine one_ (i := 1) (N := some 75) #[true, true, true, false, false, true, true, true, true, false, false, false] rfl rfl (one_of HT_.out (by kernel_rfl)) (by decide) (fun K hK => ?_)
                              refine goes_ Tryd.func23 (by kernel_rfl) rfl #[.slice A0 l0.length c0] (by rfl) rfl rfl (by (try simp only [List.map_toArray, List.map_cons, List.map_nil]); first | done | rfl | (simp only [List.length_drop, List.length_take]; rfl)) ?_
                              with_reducible refine (pandectref02_Texts.calls kj42 _ _ l0 t644 _ ?side1 ?side2 A50.out).mono ?_
                              (case side1 => exact upC ((Kd.C_below HR0.out HB.out)))
                              (case side2 => exact HC0.out)
                              rintro e w79 ⟨v645, rfl, ho0, hb⟩
                              refine ⟨_, rfl, ?_⟩
                              have n0_ := Aside0.mk (Kd.R_lower ho0 (below_size (by first | exact upB HB.out | exact HB.out)))
                              have n1_ := Aside0.mk (below_step (by first | exact upB HB.out | exact HB.out) hb)
                              clear HB
                              have HO646 := n0_
                              have HB := n1_
                              clear n0_ n1_
                              (try clear hb)
                              (try clear hb2)
                              (try clear hk)
                              (try clear hi)
                              (try clear ho0)
                              refine hK.out _ _ trivial (fun hHeld => ?_)
                              clear hK K
                              refine norm_ (a' := ?_) ?_ ?_
                              rotate_left
                              · show Act.put _ (some 75) _ = _
                                simp only [Act.put, List.setIfInBounds_toArray, List.set_cons_zero, List.set_cons_succ, i64_w, i32_w]
                                rfl
                              refine one_ (i := 3) (N := some 77) #[true, true, true, true, false, true, true, true, true, false, false, false] rfl rfl (one_of HT_.out (by kernel_rfl)) (by decide) (fun K hK => ?_)
                              refine goes_ Tryd.func23 (by kernel_rfl) rfl #[.slice A1 l1.length c1] (by rfl) rfl rfl (by (try simp only [List.map_toArray, List.map_cons, List.map_nil]); first | done | rfl | (simp only [List.length_drop, List.length_take]; rfl)) ?_
                              with_reducible refine (pandectref02_Texts.calls kj42 _ _ l1 t647 _ ?side1 ?side2 A51.out).mono ?_
                              (case side1 => exact upC ((Kd.C_below HR1.out HB.out)))
                              (case side2 => exact HC1.out)
                              rintro e w80 ⟨v648, rfl, ho0, hb⟩
                              refine ⟨_, rfl, ?_⟩
                              have n0_ := Aside0.mk (Kd.R_elder' (by exact upR HO646.out) (Kd.R_base ho0) hb)
                              have n1_ := Aside0.mk (Kd.R_lower (Kd.R_new' ho0 (Kd.R_lt (by exact upR HO646.out))) (below_size (by first | exact upB HB.out | exact HB.out)))
                              have n2_ := Aside0.mk (below_step (by first | exact upB HB.out | exact HB.out) hb)
                              clear HO646
                              clear HB
                              have HO646 := n0_
                              have HO649 := n1_
                              have HB := n2_
                              clear n0_ n1_ n2_
                              (try clear hb)
                              (try clear hb2)
                              (try clear hk)
                              (try clear hi)
                              (try clear ho0)
                              obtain ⟨Ao82, co82, eo82⟩ := Kd.R_slice HO649.out
                              (first | subst eo82 | (injection eo82 with f1_ f2_ f3_; have f4_ := f1_.symm; have f5_ := f3_.symm; clear f1_ f2_ f3_; subst f4_; subst f5_))
                              refine hK.out _ _ trivial (fun hHeld => ?_)
                              clear hK K
                              refine norm_ (a' := ?_) ?_ ?_
                              rotate_left
                              · show Act.put _ (some 77) _ = _
                                simp only [Act.put, List.setIfInBounds_toArray, List.set_cons_zero, List.set_cons_succ, i64_w, i32_w]
                                rfl
                              refine one_ (i := 4) (N := some 78) #[true, true, true, true, true, true, true, true, true, false, false, false] rfl rfl (one_of HT_.out (by kernel_rfl)) (by decide) (fun K hK => ?_)
                              refine Kd.R_append_rows_step Kd.string (w0 := w) w.heap.size (by rfl) (.tmp 75) (.tmp 77) 22 9 (.string ⟨#[]⟩) 16 rfl Tryd.underlying22 info9 rfl (by decide) (by omega) v645 t644 t647 _ _ _ (fun k_ => some k_ ≠ (.slice Ao82 t647.length co82 : Value).ownBlock) (fun _ => False) rfl rfl ?aO ?aR (fun _ _ h => h) (fun _ h => h.elim) ?aF ?aB ?aS ?aL ?_
                              (case aR => exact upC ((Kd.R_reads' HO649.out).2.2))
                              (case aB => exact (by first | exact upB HB.out | exact HB.out))
                              (case aF => exact (fun k_ hk => Kd.fresh' (Kd.R_lt (by exact upR HO649.out)) k_ hk))
                              (case aO => exact (by (with_reducible repeat (first | apply Kd.R_alloc | apply Kd.R_drewN | apply Kd.R_drew)); exact Kd.R_mono HO646.out (fun _ hk => hk.2)))
                              (case aS => exact (below_size (by first | exact upB HB.out | exact HB.out)))
                              (case aL => have := LMc52.out; omega)
                              intro v651 w81 ho hb hg hat
                              rw [← Ny650.out] at ho
                              have n0_ := Aside0.mk (Kd.R_after (ok := (fun _ => True)) (by exact upR HO649.out) hg hat)
                              have n1_ := Aside0.mk (hb)
                              have n2_ := Aside0.mk (ho)
                              clear HO649
                              clear HB
                              clear HO646
                              have HO649 := n0_
                              have HB := n1_
                              have HO652 := n2_
                              clear n0_ n1_ n2_
                              clear ho hb hg hat
                              refine hK.out _ _ trivial (fun hHeld => ?_)
                              clear hK K
                              refine norm_ (a' := ?_) ?_ ?_
                              rotate_left
                              · show Act.put _ (some 78) _ = _
                                simp only [Act.put, List.setIfInBounds_toArray, List.set_cons_zero, List.set_cons_succ, i64_w, i32_w]
                                rfl
                              refine one_ (i := 9) (N := some 83) #[true, true, true, true, true, true, true, true, true, true, false, false] rfl rfl (one_of HT_.out (by kernel_rfl)) (by decide) (fun K hK => ?_)
                              refine goes_ Tryd.func23 (by kernel_rfl) rfl #[.slice A1 (l1.take ((l0.length : Int) : Int).toNat).length c1] (by rfl) rfl rfl (by (try simp only [List.map_toArray, List.map_cons, List.map_nil]); first | done | (rw [show (l1.take ((l0.length : Int) : Int).toNat).length = (l0.length : Int).toNat from (by rw [List.length_take]; have h_ : ((l0.length : Int) : Int) ≤ (l1.length : Int) := of_decide_eq_true (by first | (with_reducible assumption) | assumption); omega)] <;> rfl) | rfl | (simp only [List.length_drop, List.length_take]; rfl)) ?_
                              with_reducible refine (pandectref02_Texts.calls kj42 _ _ (l1.take ((l0.length : Int) : Int).toNat) t654 _ ?side1 ?side2 A55.out).mono ?_
                              (case side1 => exact upC ((Kd.C_below HR653.out HB.out)))
                              (case side2 => exact HC653.out)
                              rintro e w83 ⟨v655, rfl, ho0, hb⟩
                              refine ⟨_, rfl, ?_⟩
                              have n0_ := Aside0.mk (Kd.R_elder' (by exact upR HO649.out) (Kd.R_base ho0) hb)
                              have n1_ := Aside0.mk (Kd.R_elder' (by exact upR HO652.out) (Kd.R_base ho0) hb)
                              have n2_ := Aside0.mk (Kd.R_lower (Kd.R_new' (Kd.R_new' ho0 (Kd.R_lt (by exact upR HO649.out))) (Kd.R_lt (by exact upR HO652.out))) (below_size (by first | exact upB HB.out | exact HB.out)))
                              have n3_ := Aside0.mk (below_step (by first | exact upB HB.out | exact HB.out) hb)
                              clear HO649
                              clear HO652
                              clear HB
                              have HO649 := n0_
                              have HO652 := n1_
                              have HO656 := n2_
                              have HB := n3_
                              clear n0_ n1_ n2_ n3_
                              (try clear hb)
                              (try clear hb2)
                              (try clear hk)
                              (try clear hi)
                              (try clear ho0)
                              obtain ⟨Ao85, co85, eo85⟩ := Kd.R_slice HO656.out
                              (first | subst eo85 | (injection eo85 with f1_ f2_ f3_; have f4_ := f1_.symm; have f5_ := f3_.symm; clear f1_ f2_ f3_; subst f4_; subst f5_))
                              refine hK.out _ _ trivial (fun hHeld => ?_)
                              clear hK K
                              refine norm_ (a' := ?_) ?_ ?_
                              rotate_left
                              · show Act.put _ (some 83) _ = _
                                simp only [Act.put, List.setIfInBounds_toArray, List.set_cons_zero, List.set_cons_succ, i64_w, i32_w]
                                rfl
                              refine one_ (i := 10) (N := some 84) #[true, true, true, true, true, true, true, true, true, true, true, false] rfl rfl (one_of HT_.out (by kernel_rfl)) (by decide) (fun K hK => ?_)
                              refine Kd.R_append_rows_step Kd.string (w0 := w) w.heap.size (by rfl) (.tmp 78) (.tmp 83) 22 9 (.string ⟨#[]⟩) 16 rfl Tryd.underlying22 info9 rfl (by decide) (by omega) v651 y650 t654 _ _ _ (fun k_ => some k_ ≠ (.slice Ao82 t647.length co82 : Value).ownBlock ∧ some k_ ≠ (.slice Ao85 t654.length co85 : Value).ownBlock) (fun _ => False) rfl rfl ?aO ?aR (fun _ _ h => h) (fun _ h => h.elim) ?aF ?aB ?aS ?aL ?_
                              (case aR => exact upC ((Kd.R_reads' HO656.out).2.2))
                              (case aB => exact (by first | exact upB HB.out | exact HB.out))
                              (case aF => exact (fun k_ hk => ⟨Kd.fresh' (Kd.R_lt (by exact upR HO649.out)) k_ hk, Kd.fresh' (Kd.R_lt (by exact upR HO656.out)) k_ hk⟩))
                              (case aO => exact (by exact upR HO652.out))
                              (case aS => exact (below_size (by first | exact upB HB.out | exact HB.out)))
                              (case aL => have := LMc56.out; omega)
                              intro v658 w84 ho hb hg hat
                              rw [← Ny657.out] at ho
                              have n0_ := Aside0.mk (Kd.R_after (ok := (fun k_ => some k_ ≠ (.slice Ao85 t654.length co85 : Value).ownBlock)) (by (with_reducible repeat (first | apply Kd.R_alloc | apply Kd.R_drewN | apply Kd.R_drew)); exact Kd.R_mono HO649.out (fun _ hk => ⟨hk.2, hk.1.2⟩)) hg hat)
                              have n1_ := Aside0.mk (Kd.R_after (ok := (fun k_ => some k_ ≠ (.slice Ao82 t647.length co82 : Value).ownBlock)) (by (with_reducible repeat (first | apply Kd.R_alloc | apply Kd.R_drewN | apply Kd.R_drew)); exact Kd.R_mono HO656.out (fun _ hk => ⟨hk.1.2, hk.2⟩)) hg hat)
                              have n2_ := Aside0.mk (hb)
                              have n3_ := Aside0.mk (ho)
                              clear HO649
                              clear HO656
                              clear HB
                              clear HO652
                              have HO649 := n0_
                              have HO656 := n1_
                              have HB := n2_
                              have HO659 := n3_
                              clear n0_ n1_ n2_ n3_
                              clear ho hb hg hat
                              refine hK.out _ _ trivial (fun hHeld => ?_)
                              clear hK K
                              refine norm_ (a' := ?_) ?_ ?_
                              rotate_left
                              · show Act.put _ (some 84) _ = _
                                simp only [Act.put, List.setIfInBounds_toArray, List.set_cons_zero, List.set_cons_succ, i64_w, i32_w]
                                rfl
                              refine pure_ (i := 11) (N := some 10) (v := ?_) (a' := ?_) #[true, true, true, true, true, true, true, true, true, true, true, true] rfl rfl (any_of HT_.out (by kernel_rfl)) (fun _ _ _ h => h) (Or.inl ⟨by rfl, ?_⟩) ?_ ?_
                              rotate_left
                              · intro w'
                                go_simp
                                with_reducible rfl
                              rotate_left
                              · simp only [Act.put, List.setIfInBounds_toArray, List.set_cons_zero, List.set_cons_succ, i64_w, i32_w]
                                rfl
                              refine done_ (done_of HT_.out (by kernel_rfl)) ?_
                              try go_wp2
                              go_ret
                              exact ⟨by first | rfl | (simp [errW_none, errW_some] <;> rfl) | (simp [*, errW_none, errW_some] <;> rfl), by first | exact upB HB.out | exact HB.out⟩
                          · rw [if_neg c56] at H
                            exact absurd H (by simp)
                        · rw [if_neg c54] at H
                          exact absurd H (by simp)
                      · rw [if_neg c53] at H
                        exact absurd H (by simp)
                    · rw [if_neg c52] at H
                      exact absurd H (by simp)

end Go.Proofs.YteofiiggnegnkaaDoor.P
