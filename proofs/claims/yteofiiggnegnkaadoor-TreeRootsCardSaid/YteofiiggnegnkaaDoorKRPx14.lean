import Derived.Test.YteofiiggnegnkaaDoorKPx0
import Derived.Test.YteofiiggnegnkaaDoorKPx1
import Derived.Test.YteofiiggnegnkaaDoorKPx2
import Derived.Test.YteofiiggnegnkaaDoorKPx3
import Derived.Test.YteofiiggnegnkaaDoorKPx4
import Derived.Test.YteofiiggnegnkaaDoorKRPx5
import Derived.Test.YteofiiggnegnkaaDoorKD
import Derived.Test.YteofiiggnegnkaaDoorKTb
import Derived.Test.YteofiiggnegnkaaDoorKRPx11
import Derived.Test.YteofiiggnegnkaaDoorKRPx12
set_option linter.unusedVariables false
set_option linter.unusedSimpArgs false
-- PRINTED by print.py (a twelfth state) out of the translation. Not trusted: Lean checks it.
namespace Go.Proofs.YteofiiggnegnkaaDoor.P
open Go.RowKit Go.Proofs.YteofiiggnegnkaaDoorW.PrintWords Go.Proofs.YteofiiggnegnkaaDoorW.PrintLast Go.Proofs.YteofiiggnegnkaaDoorW.PrintMore
attribute [local go_sem] max2_int min2_int max_two min_two max_three min_three max_four min_four   -- for this text's walks alone
set_option linter.unusedVariables false
set_option linter.unusedSimpArgs false

/-! ### pandectlaw02_TreeRoots: function 6 -/
def pandectlaw02_TreeRoots.j0 : Nat → List ByteArray → List ByteArray → Bool → Bool → Option (Bool)
  | 0, _, _, _, _ => none
  | k + 1, x0, x1, x5, x21 => if x21 = true then (some x5) else ((pandectref01_Same.f k x0 x1).bind fun t572 => (if t572 = true then (if x5 = true then ((tree_Root.f k x0).bind fun t573 => ((tree_Root.f k x1).bind fun t574 => (some (t573.toList == t574.toList)))) else (some false)) else (if x5 = true then ((tree_Root.f k x0).bind fun t575 => ((tree_Root.f k x1).bind fun t576 => (if t575.toList = t576.toList then ((pandectref02_Texts.f k x0).bind fun t577 => ((pandectref02_Texts.f k x1).bind fun t580 => (if t577.length + t580.length < 8796093022208 then ((pandectref02_Shown.f k (t577 ++ t580)).bind fun t586 => (some t586)) else (none)))) else (some true)))) else (some false))))
def pandectlaw02_TreeRoots.f (k : Nat) (l0 : List ByteArray) (l1 : List ByteArray) : Option (Bool) := (pandectlaw02_head.f k).bind fun t569 => ((pandectlaw02_few.f k l0).bind fun t570 => (if t570 = true then ((pandectlaw02_few.f k l1).bind fun t571 => (if t571 = true then (pandectlaw02_TreeRoots.j0 k l0 l1 t569 ((l0.length : Int) != (l1.length : Int))) else (pandectlaw02_TreeRoots.j0 k l0 l1 t569 true))) else (pandectlaw02_TreeRoots.j0 k l0 l1 t569 true)))
set_option maxHeartbeats 8000000 in
set_option maxRecDepth 100000 in
theorem pandectlaw02_TreeRoots.calls (k : Nat) (A0 : Option Addr) (c0 : Nat) (l0 : List ByteArray) (A1 : Option Addr) (c1 : Nat) (l1 : List ByteArray) (r : Bool) (w : World) (hr0 : Kd.C Kd.string w A0 l0.length l0) (hc0 : l0.length ≤ c0) (hr1 : Kd.C Kd.string w A1 l1.length l1) (hc1 : l1.length ≤ c1) (hT : Tabs w) (h : pandectlaw02_TreeRoots.f k l0 l1 = some r) :
    Calls Tryd.prog 6 #[.slice A0 l0.length c0, .slice A1 l1.length c1] w fun e w' => e = .returned (.bool r) ∧ Below w.heap.size w w' := by
  have HT := Aside0.mk hT
  clear hT
  have HR0 := Aside0.mk hr0
  have HC0 := Aside0.mk hc0
  clear hr0 hc0
  have HR1 := Aside0.mk hr1
  have HC1 := Aside0.mk hc1
  clear hr1 hc1
  have HB := Aside0.mk (Below.refl w.heap.size w)
  have H : ((pandectlaw02_head.f k).bind fun t569 => ((pandectlaw02_few.f k l0).bind fun t570 => (if t570 = true then ((pandectlaw02_few.f k l1).bind fun t571 => (if t571 = true then (pandectlaw02_TreeRoots.j0 k l0 l1 t569 ((l0.length : Int) != (l1.length : Int))) else (pandectlaw02_TreeRoots.j0 k l0 l1 t569 true))) else (pandectlaw02_TreeRoots.j0 k l0 l1 t569 true)))) = some r := h
  clear h
  replace H := Option.bind_eq_some_iff.mp H
  obtain ⟨t569, A30, H⟩ := H
  replace H : ((pandectlaw02_few.f k l0).bind fun t570 => (if t570 = true then ((pandectlaw02_few.f k l1).bind fun t571 => (if t571 = true then (pandectlaw02_TreeRoots.j0 k l0 l1 t569 ((l0.length : Int) != (l1.length : Int))) else (pandectlaw02_TreeRoots.j0 k l0 l1 t569 true))) else (pandectlaw02_TreeRoots.j0 k l0 l1 t569 true))) = some r := H
  have A3 := Aside0.mk A30
  clear A30
  have HC4 := Aside0.mk H
  clear H
  go_enter Tryd.func6, Tryd.ntmps6
  go_upto_region 2 with (first | ((with_reducible refine gate_callee (f := 9) rfl ?_); refine goesL_ (some 6) rfl rfl Tryd.func9 (by kernel_rfl) rfl #[] rfl (by (try simp only [List.map_toArray, List.map_cons, List.map_nil]); first | done | rfl | (simp only [List.length_drop, List.length_take]; rfl)) ?_; (with_reducible refine (pandectlaw02_head.calls k  t569 _ ?side1 A3.out).mono ?_); (case side1 => exact tabs_below HT.out (by first | exact upB HB.out | exact HB.out)); rintro e w5 ⟨rfl, hb⟩; refine ⟨_, rfl, ?_⟩; have n0_ := Aside0.mk (below_step (by first | exact upB HB.out | exact HB.out) hb); clear HB; have HB := n0_; clear n0_; (try clear hb); (try clear hb2); (try clear hk); (try clear hi)))
  (try simp only [Act.put, List.setIfInBounds_toArray, List.set_cons_zero, List.set_cons_succ])
  go_cut [21] (fun v21 wc => ∃ (kq : Nat) (x21_3 : Bool), v21 = .bool x21_3 ∧ Aside0 (pandectlaw02_TreeRoots.j0 kq l0 l1 t569 x21_3 = some r) ∧ Aside0 (kq ≤ k) ∧ Aside0 (Below w.heap.size w wc))
  case first =>
    have H := HC4.out
    clear HC4
    replace H := Option.bind_eq_some_iff.mp H
    obtain ⟨t570, A60, H⟩ := H
    replace H : (if t570 = true then ((pandectlaw02_few.f k l1).bind fun t571 => (if t571 = true then (pandectlaw02_TreeRoots.j0 k l0 l1 t569 ((l0.length : Int) != (l1.length : Int))) else (pandectlaw02_TreeRoots.j0 k l0 l1 t569 true))) else (pandectlaw02_TreeRoots.j0 k l0 l1 t569 true)) = some r := H
    have A6 := Aside0.mk A60
    clear A60
    by_cases c7 : t570 = true
    · subst c7
      have H1 : ((pandectlaw02_few.f k l1).bind fun t571 => (if t571 = true then (pandectlaw02_TreeRoots.j0 k l0 l1 t569 ((l0.length : Int) != (l1.length : Int))) else (pandectlaw02_TreeRoots.j0 k l0 l1 t569 true))) = some r := by rw [if_pos rfl] at H; exact H
      clear H
      have H := H1
      clear H1
      replace H := Option.bind_eq_some_iff.mp H
      obtain ⟨t571, A80, H⟩ := H
      replace H : (if t571 = true then (pandectlaw02_TreeRoots.j0 k l0 l1 t569 ((l0.length : Int) != (l1.length : Int))) else (pandectlaw02_TreeRoots.j0 k l0 l1 t569 true)) = some r := H
      have A8 := Aside0.mk A80
      clear A80
      by_cases c9 : t571 = true
      · subst c9
        have H1 : (pandectlaw02_TreeRoots.j0 k l0 l1 t569 ((l0.length : Int) != (l1.length : Int))) = some r := by rw [if_pos rfl] at H; exact H
        clear H
        have H := H1
        clear H1
        have H' := Aside0.mk H
        clear H
        have tk10_ : True := trivial
        have tk11_ : True := trivial
        go_wp2_with (first | ((with_reducible refine gate_callee (f := 10) rfl ?_); clear tk10_; refine goesL_ (some 8) rfl rfl Tryd.func10 (by kernel_rfl) rfl #[.slice A0 l0.length c0] rfl (by (try simp only [List.map_toArray, List.map_cons, List.map_nil]); first | done | rfl | (simp only [List.length_drop, List.length_take]; rfl)) ?_; (with_reducible refine (pandectlaw02_few.calls k _ _ l0 true _ ?side1 ?side2 A6.out).mono ?_); (case side1 => exact upC ((Kd.C_below HR0.out HB.out))); (case side2 => exact HC0.out); rintro e w' ⟨rfl, ⟨nd, rfl⟩⟩; refine ⟨_, rfl, ?_⟩) | (go_at_call 10; clear tk11_; (with_reducible refine (pandectlaw02_few.calls k _ _ l1 true _ ?side1 ?side2 A8.out).mono ?_); (case side1 => repeat (first | exact (Kd.C_below HR1.out (by first | exact upB HB.out | exact HB.out)) | (with_reducible refine Kd.C_alloc ?_ _) | (with_reducible refine Kd.C_drewN ?_ _) | (with_reducible refine Kd.C_drew ?_))); (case side2 => exact HC1.out); rintro e w' ⟨rfl, ⟨nd, rfl⟩⟩))
        go_meet
        case rel => exact ⟨_, (((l0.length : Int) != (l1.length : Int))), (by first | rfl | (simp; done) | (simp [*]; done)), H', ⟨by first | omega | exact Nat.le_refl _⟩, ⟨by first | exact upB HB.out | exact HB.out⟩⟩
      · replace c9 := Bool.eq_false_iff.mpr c9
        subst c9
        have H1 : (pandectlaw02_TreeRoots.j0 k l0 l1 t569 true) = some r := by rw [if_neg (show ¬ (false = true) by decide)] at H; exact H
        clear H
        have H := H1
        clear H1
        have H' := Aside0.mk H
        clear H
        have tk12_ : True := trivial
        have tk13_ : True := trivial
        go_wp2_with (first | ((with_reducible refine gate_callee (f := 10) rfl ?_); clear tk12_; refine goesL_ (some 8) rfl rfl Tryd.func10 (by kernel_rfl) rfl #[.slice A0 l0.length c0] rfl (by (try simp only [List.map_toArray, List.map_cons, List.map_nil]); first | done | rfl | (simp only [List.length_drop, List.length_take]; rfl)) ?_; (with_reducible refine (pandectlaw02_few.calls k _ _ l0 true _ ?side1 ?side2 A6.out).mono ?_); (case side1 => exact upC ((Kd.C_below HR0.out HB.out))); (case side2 => exact HC0.out); rintro e w' ⟨rfl, ⟨nd, rfl⟩⟩; refine ⟨_, rfl, ?_⟩) | (go_at_call 10; clear tk13_; (with_reducible refine (pandectlaw02_few.calls k _ _ l1 false _ ?side1 ?side2 A8.out).mono ?_); (case side1 => repeat (first | exact (Kd.C_below HR1.out (by first | exact upB HB.out | exact HB.out)) | (with_reducible refine Kd.C_alloc ?_ _) | (with_reducible refine Kd.C_drewN ?_ _) | (with_reducible refine Kd.C_drew ?_))); (case side2 => exact HC1.out); rintro e w' ⟨rfl, ⟨nd, rfl⟩⟩))
        go_meet
        case rel => exact ⟨_, (true), (by first | rfl | (simp; done) | (simp [*]; done)), H', ⟨by first | omega | exact Nat.le_refl _⟩, ⟨by first | exact upB HB.out | exact HB.out⟩⟩
    · replace c7 := Bool.eq_false_iff.mpr c7
      subst c7
      have H1 : (pandectlaw02_TreeRoots.j0 k l0 l1 t569 true) = some r := by rw [if_neg (show ¬ (false = true) by decide)] at H; exact H
      clear H
      have H := H1
      clear H1
      have H' := Aside0.mk H
      clear H
      go_wp2_with (first | ((with_reducible refine gate_callee (f := 10) rfl ?_); refine goesL_ (some 8) rfl rfl Tryd.func10 (by kernel_rfl) rfl #[.slice A0 l0.length c0] rfl (by (try simp only [List.map_toArray, List.map_cons, List.map_nil]); first | done | rfl | (simp only [List.length_drop, List.length_take]; rfl)) ?_; (with_reducible refine (pandectlaw02_few.calls k _ _ l0 false _ ?side1 ?side2 A6.out).mono ?_); (case side1 => exact upC ((Kd.C_below HR0.out HB.out))); (case side2 => exact HC0.out); rintro e w' ⟨rfl, ⟨nd, rfl⟩⟩; refine ⟨_, rfl, ?_⟩))
      go_meet
      case rel => exact ⟨_, (true), (by first | rfl | (simp; done) | (simp [*]; done)), H', ⟨by first | omega | exact Nat.le_refl _⟩, ⟨by first | exact upB HB.out | exact HB.out⟩⟩
  case rest =>
    clear HC4
    try clear c1
    try clear p2
    try clear c6
    try clear c7
    try clear c9
    try clear c10
    obtain ⟨kq, x21_3, rfl, HA, HJ3, HB⟩ := hcut
    cases kq with
    | zero => exact absurd HA.out (by simp [pandectlaw02_TreeRoots.j0])
    | succ kj3 =>
      have H := HA.out
      clear HA
      simp only [pandectlaw02_TreeRoots.j0] at H
      by_cases c14 : x21_3 = true
      · subst c14
        have H1 : (some t569) = some r := by rw [if_pos rfl] at H; exact H
        clear H
        have H := H1
        clear H1
        obtain rfl := Option.some.inj H
        go_wp2
        go_ret
        exact ⟨by first | rfl | (simp [errW_none, errW_some] <;> rfl) | (simp [*, errW_none, errW_some] <;> rfl), by first | exact upB HB.out | exact HB.out⟩
      · replace c14 := Bool.eq_false_iff.mpr c14
        subst c14
        have H1 : ((pandectref01_Same.f kj3 l0 l1).bind fun t572 => (if t572 = true then (if t569 = true then ((tree_Root.f kj3 l0).bind fun t573 => ((tree_Root.f kj3 l1).bind fun t574 => (some (t573.toList == t574.toList)))) else (some false)) else (if t569 = true then ((tree_Root.f kj3 l0).bind fun t575 => ((tree_Root.f kj3 l1).bind fun t576 => (if t575.toList = t576.toList then ((pandectref02_Texts.f kj3 l0).bind fun t577 => ((pandectref02_Texts.f kj3 l1).bind fun t580 => (if t577.length + t580.length < 8796093022208 then ((pandectref02_Shown.f kj3 (t577 ++ t580)).bind fun t586 => (some t586)) else (none)))) else (some true)))) else (some false)))) = some r := by rw [if_neg (show ¬ (false = true) by decide)] at H; exact H
        clear H
        have H := H1
        clear H1
        replace H := Option.bind_eq_some_iff.mp H
        obtain ⟨t572, A150, H⟩ := H
        replace H : (if t572 = true then (if t569 = true then ((tree_Root.f kj3 l0).bind fun t573 => ((tree_Root.f kj3 l1).bind fun t574 => (some (t573.toList == t574.toList)))) else (some false)) else (if t569 = true then ((tree_Root.f kj3 l0).bind fun t575 => ((tree_Root.f kj3 l1).bind fun t576 => (if t575.toList = t576.toList then ((pandectref02_Texts.f kj3 l0).bind fun t577 => ((pandectref02_Texts.f kj3 l1).bind fun t580 => (if t577.length + t580.length < 8796093022208 then ((pandectref02_Shown.f kj3 (t577 ++ t580)).bind fun t586 => (some t586)) else (none)))) else (some true)))) else (some false))) = some r := H
        have A15 := Aside0.mk A150
        clear A150
        by_cases c16 : t572 = true
        · subst c16
          have H1 : (if t569 = true then ((tree_Root.f kj3 l0).bind fun t573 => ((tree_Root.f kj3 l1).bind fun t574 => (some (t573.toList == t574.toList)))) else (some false)) = some r := by rw [if_pos rfl] at H; exact H
          clear H
          have H := H1
          clear H1
          by_cases c17 : t569 = true
          · subst c17
            have H1 : ((tree_Root.f kj3 l0).bind fun t573 => ((tree_Root.f kj3 l1).bind fun t574 => (some (t573.toList == t574.toList)))) = some r := by rw [if_pos rfl] at H; exact H
            clear H
            have H := H1
            clear H1
            replace H := Option.bind_eq_some_iff.mp H
            obtain ⟨t573, A180, H⟩ := H
            replace H : ((tree_Root.f kj3 l1).bind fun t574 => (some (t573.toList == t574.toList))) = some r := H
            have A18 := Aside0.mk A180
            clear A180
            replace H := Option.bind_eq_some_iff.mp H
            obtain ⟨t574, A190, H⟩ := H
            replace H : (some (t573.toList == t574.toList)) = some r := H
            have A19 := Aside0.mk A190
            clear A190
            obtain rfl := Option.some.inj H
            have tk22_ : True := trivial
            have tk23_ : True := trivial
            go_wp2_with (first | ((with_reducible refine gate_callee (f := 17) rfl ?_); refine goesL_ (some 25) rfl rfl Tryd.func17 (by kernel_rfl) rfl #[.slice A0 l0.length c0, .slice A1 l1.length c1] rfl (by (try simp only [List.map_toArray, List.map_cons, List.map_nil]); first | done | rfl | (simp only [List.length_drop, List.length_take]; rfl)) ?_; (with_reducible refine (pandectref01_Same.calls kj3 _ _ l0 _ _ l1 true _ ?side1 ?side2 ?side3 ?side4 A15.out).mono ?_); (case side1 => exact upC ((Kd.C_below HR0.out HB.out))); (case side2 => exact HC0.out); (case side3 => exact upC ((Kd.C_below HR1.out HB.out))); (case side4 => exact HC1.out); rintro e w' ⟨rfl, ⟨nd, rfl⟩⟩; refine ⟨_, rfl, ?_⟩) | (go_at_call 15; clear tk22_; (with_reducible refine (tree_Root.calls kj3 _ _ l0 t573 _ ?side1 ?side2 ?side3 A18.out).mono ?_); (case side1 => repeat (first | exact (Kd.C_below HR0.out (by first | exact upB HB.out | exact HB.out)) | (with_reducible refine Kd.C_alloc ?_ _) | (with_reducible refine Kd.C_drewN ?_ _) | (with_reducible refine Kd.C_drew ?_))); (case side2 => exact HC0.out); (case side3 => exact tabs_below HT.out (by first | exact upB HB.out | exact HB.out)); rintro e w20 ⟨rfl, hb⟩; have n0_ := Aside0.mk (below_step (by first | exact upB HB.out | exact HB.out) hb); clear HB; have HB := n0_; clear n0_; (try clear hb); (try clear hb2); (try clear hk); (try clear hi)) | (go_at_call 15; clear tk23_; (with_reducible refine (tree_Root.calls kj3 _ _ l1 t574 _ ?side1 ?side2 ?side3 A19.out).mono ?_); (case side1 => exact upC ((Kd.C_below HR1.out HB.out))); (case side2 => exact HC1.out); (case side3 => exact tabs_below HT.out (by first | exact upB HB.out | exact HB.out)); rintro e w21 ⟨rfl, hb⟩; have n0_ := Aside0.mk (below_step (by first | exact upB HB.out | exact HB.out) hb); clear HB; have HB := n0_; clear n0_; (try clear hb); (try clear hb2); (try clear hk); (try clear hi)))
            go_ret
            exact ⟨by first | rfl | (simp [errW_none, errW_some] <;> rfl) | (simp [*, errW_none, errW_some] <;> rfl), by first | exact upB HB.out | exact HB.out⟩
          · replace c17 := Bool.eq_false_iff.mpr c17
            subst c17
            have H1 : (some false) = some r := by rw [if_neg (show ¬ (false = true) by decide)] at H; exact H
            clear H
            have H := H1
            clear H1
            obtain rfl := Option.some.inj H
            go_wp2_with (first | ((with_reducible refine gate_callee (f := 17) rfl ?_); refine goesL_ (some 25) rfl rfl Tryd.func17 (by kernel_rfl) rfl #[.slice A0 l0.length c0, .slice A1 l1.length c1] rfl (by (try simp only [List.map_toArray, List.map_cons, List.map_nil]); first | done | rfl | (simp only [List.length_drop, List.length_take]; rfl)) ?_; (with_reducible refine (pandectref01_Same.calls kj3 _ _ l0 _ _ l1 true _ ?side1 ?side2 ?side3 ?side4 A15.out).mono ?_); (case side1 => exact upC ((Kd.C_below HR0.out HB.out))); (case side2 => exact HC0.out); (case side3 => exact upC ((Kd.C_below HR1.out HB.out))); (case side4 => exact HC1.out); rintro e w' ⟨rfl, ⟨nd, rfl⟩⟩; refine ⟨_, rfl, ?_⟩))
            go_ret
            exact ⟨by first | rfl | (simp [errW_none, errW_some] <;> rfl) | (simp [*, errW_none, errW_some] <;> rfl), by first | exact upB HB.out | exact HB.out⟩
        · replace c16 := Bool.eq_false_iff.mpr c16
          subst c16
          have H1 : (if t569 = true then ((tree_Root.f kj3 l0).bind fun t575 => ((tree_Root.f kj3 l1).bind fun t576 => (if t575.toList = t576.toList then ((pandectref02_Texts.f kj3 l0).bind fun t577 => ((pandectref02_Texts.f kj3 l1).bind fun t580 => (if t577.length + t580.length < 8796093022208 then ((pandectref02_Shown.f kj3 (t577 ++ t580)).bind fun t586 => (some t586)) else (none)))) else (some true)))) else (some false)) = some r := by rw [if_neg (show ¬ (false = true) by decide)] at H; exact H
          clear H
          have H := H1
          clear H1
          by_cases c24 : t569 = true
          · subst c24
            have H1 : ((tree_Root.f kj3 l0).bind fun t575 => ((tree_Root.f kj3 l1).bind fun t576 => (if t575.toList = t576.toList then ((pandectref02_Texts.f kj3 l0).bind fun t577 => ((pandectref02_Texts.f kj3 l1).bind fun t580 => (if t577.length + t580.length < 8796093022208 then ((pandectref02_Shown.f kj3 (t577 ++ t580)).bind fun t586 => (some t586)) else (none)))) else (some true)))) = some r := by rw [if_pos rfl] at H; exact H
            clear H
            have H := H1
            clear H1
            replace H := Option.bind_eq_some_iff.mp H
            obtain ⟨t575, A250, H⟩ := H
            replace H : ((tree_Root.f kj3 l1).bind fun t576 => (if t575.toList = t576.toList then ((pandectref02_Texts.f kj3 l0).bind fun t577 => ((pandectref02_Texts.f kj3 l1).bind fun t580 => (if t577.length + t580.length < 8796093022208 then ((pandectref02_Shown.f kj3 (t577 ++ t580)).bind fun t586 => (some t586)) else (none)))) else (some true))) = some r := H
            have A25 := Aside0.mk A250
            clear A250
            replace H := Option.bind_eq_some_iff.mp H
            obtain ⟨t576, A260, H⟩ := H
            replace H : (if t575.toList = t576.toList then ((pandectref02_Texts.f kj3 l0).bind fun t577 => ((pandectref02_Texts.f kj3 l1).bind fun t580 => (if t577.length + t580.length < 8796093022208 then ((pandectref02_Shown.f kj3 (t577 ++ t580)).bind fun t586 => (some t586)) else (none)))) else (some true)) = some r := H
            have A26 := Aside0.mk A260
            clear A260
            by_cases c27 : t575.toList = t576.toList
            · rw [if_pos c27] at H
              have c27b0 : (t575.toList == t576.toList) = true := beq_iff_eq.mpr c27
              have c27b1 : (t575.toList != t576.toList) = false := bne_eq_false_iff_eq.mpr c27
              clear c27
              replace H := Option.bind_eq_some_iff.mp H
              obtain ⟨t577, A280, H⟩ := H
              replace H : ((pandectref02_Texts.f kj3 l1).bind fun t580 => (if t577.length + t580.length < 8796093022208 then ((pandectref02_Shown.f kj3 (t577 ++ t580)).bind fun t586 => (some t586)) else (none))) = some r := H
              have A28 := Aside0.mk A280
              clear A280
              replace H := Option.bind_eq_some_iff.mp H
              obtain ⟨t580, A290, H⟩ := H
              replace H : (if t577.length + t580.length < 8796093022208 then ((pandectref02_Shown.f kj3 (t577 ++ t580)).bind fun t586 => (some t586)) else (none)) = some r := H
              have A29 := Aside0.mk A290
              clear A290
              by_cases c30 : t577.length + t580.length < 8796093022208
              · rw [if_pos c30] at H
                have LMc30 := Aside0.mk c30
                clear c30
                obtain ⟨y583, hy583⟩ : ∃ y_ : List ByteArray, y_ = (t577 ++ t580) := ⟨_, rfl⟩
                replace H : ((pandectref02_Shown.f kj3 y583).bind fun t586 => (some t586)) = some r := by first | (rw [hy583]; with_reducible exact H) | (have H2_ := (Option.bind_some _ _).symm.trans H; rw [hy583]; with_reducible exact H2_) | (have H2_ := (Option.bind_some _ _).symm.trans H; with_reducible exact H2_) | with_reducible exact H | (rw [hy583]; exact H) | exact H
                have Ny583 := Aside0.mk hy583
                clear hy583
                replace H := Option.bind_eq_some_iff.mp H
                obtain ⟨t586, A310, H⟩ := H
                replace H : (some t586) = some r := H
                have A31 := Aside0.mk A310
                clear A310
                obtain rfl := Option.some.inj H
                have tk40_ : True := trivial
                have tk41_ : True := trivial
                have tk42_ : True := trivial
                have tk43_ : True := trivial
                go_wp2_with (first | ((with_reducible refine gate_callee (f := 17) rfl ?_); refine goesL_ (some 25) rfl rfl Tryd.func17 (by kernel_rfl) rfl #[.slice A0 l0.length c0, .slice A1 l1.length c1] rfl (by (try simp only [List.map_toArray, List.map_cons, List.map_nil]); first | done | rfl | (simp only [List.length_drop, List.length_take]; rfl)) ?_; (with_reducible refine (pandectref01_Same.calls kj3 _ _ l0 _ _ l1 false _ ?side1 ?side2 ?side3 ?side4 A15.out).mono ?_); (case side1 => exact upC ((Kd.C_below HR0.out HB.out))); (case side2 => exact HC0.out); (case side3 => exact upC ((Kd.C_below HR1.out HB.out))); (case side4 => exact HC1.out); rintro e w' ⟨rfl, ⟨nd, rfl⟩⟩; refine ⟨_, rfl, ?_⟩) | (go_at_call 15; clear tk40_; (with_reducible refine (tree_Root.calls kj3 _ _ l0 t575 _ ?side1 ?side2 ?side3 A25.out).mono ?_); (case side1 => repeat (first | exact (Kd.C_below HR0.out (by first | exact upB HB.out | exact HB.out)) | (with_reducible refine Kd.C_alloc ?_ _) | (with_reducible refine Kd.C_drewN ?_ _) | (with_reducible refine Kd.C_drew ?_))); (case side2 => exact HC0.out); (case side3 => exact tabs_below HT.out (by first | exact upB HB.out | exact HB.out)); rintro e w32 ⟨rfl, hb⟩; have n0_ := Aside0.mk (below_step (by first | exact upB HB.out | exact HB.out) hb); clear HB; have HB := n0_; clear n0_; (try clear hb); (try clear hb2); (try clear hk); (try clear hi)) | (go_at_call 15; clear tk41_; (with_reducible refine (tree_Root.calls kj3 _ _ l1 t576 _ ?side1 ?side2 ?side3 A26.out).mono ?_); (case side1 => exact upC ((Kd.C_below HR1.out HB.out))); (case side2 => exact HC1.out); (case side3 => exact tabs_below HT.out (by first | exact upB HB.out | exact HB.out)); rintro e w33 ⟨rfl, hb⟩; have n0_ := Aside0.mk (below_step (by first | exact upB HB.out | exact HB.out) hb); clear HB; have HB := n0_; clear n0_; (try clear hb); (try clear hb2); (try clear hk); (try clear hi)) | (go_at_call 23; clear tk42_; (with_reducible refine (pandectref02_Texts.calls kj3 _ _ l0 t577 _ ?side1 ?side2 A28.out).mono ?_); (case side1 => exact upC ((Kd.C_below HR0.out HB.out))); (case side2 => exact HC0.out); rintro e w34 ⟨v578, rfl, ho0, hb⟩; have n0_ := Aside0.mk (Kd.R_lower ho0 (below_size (by first | exact upB HB.out | exact HB.out))); have n1_ := Aside0.mk (below_step (by first | exact upB HB.out | exact HB.out) hb); clear HB; have HO579 := n0_; have HB := n1_; clear n0_ n1_; (try clear hb); (try clear hb2); (try clear hk); (try clear hi); (try clear ho0)) | (go_at_call 23; clear tk43_; (with_reducible refine (pandectref02_Texts.calls kj3 _ _ l1 t580 _ ?side1 ?side2 A29.out).mono ?_); (case side1 => exact upC ((Kd.C_below HR1.out HB.out))); (case side2 => exact HC1.out); rintro e w35 ⟨v581, rfl, ho0, hb⟩; have n0_ := Aside0.mk (Kd.R_elder' (by exact upR HO579.out) (Kd.R_base ho0) hb); have n1_ := Aside0.mk (Kd.R_lower (Kd.R_new' ho0 (Kd.R_lt (by exact upR HO579.out))) (below_size (by first | exact upB HB.out | exact HB.out))); have n2_ := Aside0.mk (below_step (by first | exact upB HB.out | exact HB.out) hb); clear HO579; clear HB; have HO579 := n0_; have HO582 := n1_; have HB := n2_; clear n0_ n1_ n2_; (try clear hb); (try clear hb2); (try clear hk); (try clear hi); (try clear ho0); obtain ⟨Ao37, co37, eo37⟩ := Kd.R_slice HO582.out; subst eo37) | ((with_reducible refine gate_builtin (b := .append) (xs := #[.tmp 43, .tmp 45]) rfl ?_); (try (refine gate_guard (by rfl) ?_; dsimp only)); at_builtin; refine Kd.R_append_rows Kd.string (w0 := w) w.heap.size rfl (.tmp 43) (.tmp 45) 22 9 (.string ⟨#[]⟩) 16 rfl Tryd.underlying22 info9 rfl (by decide) (by omega) v578 t577 t580 _ _ _ (fun k_ => some k_ ≠ (.slice Ao37 t580.length co37 : Value).ownBlock) (fun _ => False) rfl rfl ?aO ?aR (fun _ _ h => h) (fun _ h => h.elim) ?aF ?aB ?aS ?aL ?_; (case aR => exact upC ((Kd.R_reads' HO582.out).2.2)); (case aB => exact (by first | exact upB HB.out | exact HB.out)); (case aF => exact (fun k_ hk => Kd.fresh' (Kd.R_lt (by exact upR HO582.out)) k_ hk)); (case aO => exact (by (with_reducible repeat (first | apply Kd.R_alloc | apply Kd.R_drewN | apply Kd.R_drew)); exact Kd.R_mono HO579.out (fun _ hk => hk.2))); (case aS => exact (below_size (by first | exact upB HB.out | exact HB.out))); (case aL => have := LMc30.out; omega); intro v584 w36 ho hb hg hat; rw [← Ny583.out] at ho; have n0_ := Aside0.mk (Kd.R_after (ok := (fun _ => True)) (by exact upR HO582.out) hg hat); have n1_ := Aside0.mk (hb); have n2_ := Aside0.mk (ho); clear HO582; clear HB; clear HO579; have HO582 := n0_; have HB := n1_; have HO585 := n2_; clear n0_ n1_ n2_; clear ho hb hg hat; obtain ⟨Ao38, co38, eo38⟩ := Kd.R_slice HO585.out; subst eo38) | (go_at_call 22; (with_reducible refine (pandectref02_Shown.calls kj3 _ _ y583 t586 _ ?side1 ?side2 A31.out).mono ?_); (case side1 => exact upC ((Kd.R_reads' HO585.out).2.2)); (case side2 => exact (Kd.R_reads' HO585.out).2.1); rintro e w39 ⟨rfl, hb⟩; have n0_ := Aside0.mk (Kd.R_below (by exact upR HO582.out) hb); have n1_ := Aside0.mk (Kd.R_below (by exact upR HO585.out) hb); have n2_ := Aside0.mk (below_step (by first | exact upB HB.out | exact HB.out) hb); clear HO582; clear HO585; clear HB; have HO582 := n0_; have HO585 := n1_; have HB := n2_; clear n0_ n1_ n2_; (try clear hb); (try clear hb2); (try clear hk); (try clear hi)))
                go_ret
                exact ⟨by first | rfl | (simp [errW_none, errW_some] <;> rfl) | (simp [*, errW_none, errW_some] <;> rfl), by first | exact upB HB.out | exact HB.out⟩
              · rw [if_neg c30] at H
                exact absurd H (by simp)
            · rw [if_neg c27] at H
              have c27b0 : (t575.toList == t576.toList) = false := beq_eq_false_iff_ne.mpr c27
              have c27b1 : (t575.toList != t576.toList) = true := bne_iff_ne.mpr c27
              obtain rfl := Option.some.inj H
              have tk46_ : True := trivial
              have tk47_ : True := trivial
              go_wp2_with (first | ((with_reducible refine gate_callee (f := 17) rfl ?_); refine goesL_ (some 25) rfl rfl Tryd.func17 (by kernel_rfl) rfl #[.slice A0 l0.length c0, .slice A1 l1.length c1] rfl (by (try simp only [List.map_toArray, List.map_cons, List.map_nil]); first | done | rfl | (simp only [List.length_drop, List.length_take]; rfl)) ?_; (with_reducible refine (pandectref01_Same.calls kj3 _ _ l0 _ _ l1 false _ ?side1 ?side2 ?side3 ?side4 A15.out).mono ?_); (case side1 => exact upC ((Kd.C_below HR0.out HB.out))); (case side2 => exact HC0.out); (case side3 => exact upC ((Kd.C_below HR1.out HB.out))); (case side4 => exact HC1.out); rintro e w' ⟨rfl, ⟨nd, rfl⟩⟩; refine ⟨_, rfl, ?_⟩) | (go_at_call 15; clear tk46_; (with_reducible refine (tree_Root.calls kj3 _ _ l0 t575 _ ?side1 ?side2 ?side3 A25.out).mono ?_); (case side1 => repeat (first | exact (Kd.C_below HR0.out (by first | exact upB HB.out | exact HB.out)) | (with_reducible refine Kd.C_alloc ?_ _) | (with_reducible refine Kd.C_drewN ?_ _) | (with_reducible refine Kd.C_drew ?_))); (case side2 => exact HC0.out); (case side3 => exact tabs_below HT.out (by first | exact upB HB.out | exact HB.out)); rintro e w44 ⟨rfl, hb⟩; have n0_ := Aside0.mk (below_step (by first | exact upB HB.out | exact HB.out) hb); clear HB; have HB := n0_; clear n0_; (try clear hb); (try clear hb2); (try clear hk); (try clear hi)) | (go_at_call 15; clear tk47_; (with_reducible refine (tree_Root.calls kj3 _ _ l1 t576 _ ?side1 ?side2 ?side3 A26.out).mono ?_); (case side1 => exact upC ((Kd.C_below HR1.out HB.out))); (case side2 => exact HC1.out); (case side3 => exact tabs_below HT.out (by first | exact upB HB.out | exact HB.out)); rintro e w45 ⟨rfl, hb⟩; have n0_ := Aside0.mk (below_step (by first | exact upB HB.out | exact HB.out) hb); clear HB; have HB := n0_; clear n0_; (try clear hb); (try clear hb2); (try clear hk); (try clear hi)))
              go_ret
              exact ⟨by first | rfl | (simp [errW_none, errW_some] <;> rfl) | (simp [*, errW_none, errW_some] <;> rfl), by first | exact upB HB.out | exact HB.out⟩
          · replace c24 := Bool.eq_false_iff.mpr c24
            subst c24
            have H1 : (some false) = some r := by rw [if_neg (show ¬ (false = true) by decide)] at H; exact H
            clear H
            have H := H1
            clear H1
            obtain rfl := Option.some.inj H
            go_wp2_with (first | ((with_reducible refine gate_callee (f := 17) rfl ?_); refine goesL_ (some 25) rfl rfl Tryd.func17 (by kernel_rfl) rfl #[.slice A0 l0.length c0, .slice A1 l1.length c1] rfl (by (try simp only [List.map_toArray, List.map_cons, List.map_nil]); first | done | rfl | (simp only [List.length_drop, List.length_take]; rfl)) ?_; (with_reducible refine (pandectref01_Same.calls kj3 _ _ l0 _ _ l1 false _ ?side1 ?side2 ?side3 ?side4 A15.out).mono ?_); (case side1 => exact upC ((Kd.C_below HR0.out HB.out))); (case side2 => exact HC0.out); (case side3 => exact upC ((Kd.C_below HR1.out HB.out))); (case side4 => exact HC1.out); rintro e w' ⟨rfl, ⟨nd, rfl⟩⟩; refine ⟨_, rfl, ?_⟩))
            go_ret
            exact ⟨by first | rfl | (simp [errW_none, errW_some] <;> rfl) | (simp [*, errW_none, errW_some] <;> rfl), by first | exact upB HB.out | exact HB.out⟩

/-! ### pandectlaw02_TreeGrows: function 7 -/
/-! ### pandectref02_LinkTexts: function 25 -/
end Go.Proofs.YteofiiggnegnkaaDoor.P
