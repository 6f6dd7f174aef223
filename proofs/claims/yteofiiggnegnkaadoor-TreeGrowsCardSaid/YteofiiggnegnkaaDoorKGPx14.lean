import Derived.Test.YteofiiggnegnkaaDoorKPx0
import Derived.Test.YteofiiggnegnkaaDoorKPx1
import Derived.Test.YteofiiggnegnkaaDoorKPx2
import Derived.Test.YteofiiggnegnkaaDoorKPx3
import Derived.Test.YteofiiggnegnkaaDoorKPx4
import Derived.Test.YteofiiggnegnkaaDoorKD
import Derived.Test.YteofiiggnegnkaaDoorKTb
set_option linter.unusedVariables false
set_option linter.unusedSimpArgs false
-- PRINTED by print.py (a twelfth state) out of the translation. Not trusted: Lean checks it.
namespace Go.Proofs.YteofiiggnegnkaaDoor.P
open Go.RowKit Go.Proofs.YteofiiggnegnkaaDoorW.PrintWords Go.Proofs.YteofiiggnegnkaaDoorW.PrintLast Go.Proofs.YteofiiggnegnkaaDoorW.PrintMore
attribute [local go_sem] max2_int min2_int max_two min_two max_three min_three max_four min_four   -- for this text's walks alone
set_option linter.unusedVariables false
set_option linter.unusedSimpArgs false

/-! ### pandectlaw02_TreeRoots: function 6 -/
/-! ### pandectlaw02_TreeGrows: function 7 -/
def pandectlaw02_TreeGrows.l0 : Nat → List ByteArray → Bool → Int → List ByteArray → Int → Int → Int → Option (Bool)
  | 0, _, _, _, _, _, _, _ => none
  | k + 1, x0, x5, x6, x7, x8, x9, x10 => if x10 > 0 then (pandectlaw02_TreeGrows.l0 k x0 x5 x6 x7 x8 (wrap64 (x9 + 1)) (wrap64 (Int.tdiv x10 2))) else (if x5 = true then (if x8 = 0 then (if 0 ≤ x6 then (if x6 ≤ (x0.length : Int) then ((tree_Root.f k (x0.take (x6 : Int).toNat)).bind fun t594 => ((tree_Root.f k x0).bind fun t595 => ((tree_Extends.f t594 x6 t595 (x0.length : Int) x7).bind fun t596 => (if t596 = true then (if (x7.length : Int) ≤ (wrap64 (x9 + 1)) then (if x6 = 0 then (some (((x7.length : Int) == 0) == true)) else (some (((x7.length : Int) == 0) == (x6 == (x0.length : Int))))) else (some false)) else (some false))))) else (none)) else (none)) else (some false)) else (some false))
def pandectlaw02_TreeGrows.f (k : Nat) (l0 : List ByteArray) (a1 : Int) : Option (Bool) := (pandectlaw02_head.f k).bind fun t587 => ((pandectlaw02_few.f k l0).bind fun t588 => (if t588 = true then (if (wrap64 ((l0.length : Int) + 1)) = 0 then (none) else ((tree_Link.f k l0 (Int.tmod (wrap64 (a1)) (wrap64 ((l0.length : Int) + 1)))).bind fun bt589 => (pandectlaw02_TreeGrows.l0 k l0 t587 (Int.tmod (wrap64 (a1)) (wrap64 ((l0.length : Int) + 1))) bt589.1 bt589.2 0 (l0.length : Int)))) else (some t587)))
set_option maxHeartbeats 8000000 in
set_option maxRecDepth 100000 in
theorem pandectlaw02_TreeGrows.calls (k : Nat) (A0 : Option Addr) (c0 : Nat) (l0 : List ByteArray) (a1 : Int) (r : Bool) (w : World) (hr0 : Kd.C Kd.string w A0 l0.length l0) (hc0 : l0.length ≤ c0) (hT : Tabs w) (h : pandectlaw02_TreeGrows.f k l0 a1 = some r) :
    Calls Tryd.prog 7 #[.slice A0 l0.length c0, .int .u8 a1] w fun e w' => e = .returned (.bool r) ∧ Below w.heap.size w w' := by
  have HT := Aside0.mk hT
  clear hT
  have HR0 := Aside0.mk hr0
  have HC0 := Aside0.mk hc0
  clear hr0 hc0
  have HB := Aside0.mk (Below.refl w.heap.size w)
  have H : ((pandectlaw02_head.f k).bind fun t587 => ((pandectlaw02_few.f k l0).bind fun t588 => (if t588 = true then (if (wrap64 ((l0.length : Int) + 1)) = 0 then (none) else ((tree_Link.f k l0 (Int.tmod (wrap64 (a1)) (wrap64 ((l0.length : Int) + 1)))).bind fun bt589 => (pandectlaw02_TreeGrows.l0 k l0 t587 (Int.tmod (wrap64 (a1)) (wrap64 ((l0.length : Int) + 1))) bt589.1 bt589.2 0 (l0.length : Int)))) else (some t587)))) = some r := h
  clear h
  replace H := Option.bind_eq_some_iff.mp H
  obtain ⟨t587, A30, H⟩ := H
  replace H : ((pandectlaw02_few.f k l0).bind fun t588 => (if t588 = true then (if (wrap64 ((l0.length : Int) + 1)) = 0 then (none) else ((tree_Link.f k l0 (Int.tmod (wrap64 (a1)) (wrap64 ((l0.length : Int) + 1)))).bind fun bt589 => (pandectlaw02_TreeGrows.l0 k l0 t587 (Int.tmod (wrap64 (a1)) (wrap64 ((l0.length : Int) + 1))) bt589.1 bt589.2 0 (l0.length : Int)))) else (some t587))) = some r := H
  have A3 := Aside0.mk A30
  clear A30
  replace H := Option.bind_eq_some_iff.mp H
  obtain ⟨t588, A40, H⟩ := H
  replace H : (if t588 = true then (if (wrap64 ((l0.length : Int) + 1)) = 0 then (none) else ((tree_Link.f k l0 (Int.tmod (wrap64 (a1)) (wrap64 ((l0.length : Int) + 1)))).bind fun bt589 => (pandectlaw02_TreeGrows.l0 k l0 t587 (Int.tmod (wrap64 (a1)) (wrap64 ((l0.length : Int) + 1))) bt589.1 bt589.2 0 (l0.length : Int)))) else (some t587)) = some r := H
  have A4 := Aside0.mk A40
  clear A40
  by_cases c5 : t588 = true
  · subst c5
    have H1 : (if (wrap64 ((l0.length : Int) + 1)) = 0 then (none) else ((tree_Link.f k l0 (Int.tmod (wrap64 (a1)) (wrap64 ((l0.length : Int) + 1)))).bind fun bt589 => (pandectlaw02_TreeGrows.l0 k l0 t587 (Int.tmod (wrap64 (a1)) (wrap64 ((l0.length : Int) + 1))) bt589.1 bt589.2 0 (l0.length : Int)))) = some r := by rw [if_pos rfl] at H; exact H
    clear H
    have H := H1
    clear H1
    by_cases c6 : (wrap64 ((l0.length : Int) + 1)) = 0
    · rw [if_pos c6] at H
      exact absurd H (by simp)
    · rw [if_neg c6] at H
      have c6b0 : ((wrap64 ((l0.length : Int) + 1)) == 0) = false := beq_eq_false_iff_ne.mpr c6
      have c6b1 : ((wrap64 ((l0.length : Int) + 1)) != 0) = true := bne_iff_ne.mpr c6
      replace H := Option.bind_eq_some_iff.mp H
      obtain ⟨⟨t589, t592⟩, A70, H⟩ := H
      replace H : (pandectlaw02_TreeGrows.l0 k l0 t587 (Int.tmod (wrap64 (a1)) (wrap64 ((l0.length : Int) + 1))) t589 t592 0 (l0.length : Int)) = some r := H
      have A7 := Aside0.mk A70
      clear A70
      have H' := Aside0.mk H
      clear H
      go_enter Tryd.func7, Tryd.ntmps7
      go_wp2_with (first | ((with_reducible refine gate_callee (f := 9) rfl ?_); refine goesL_ (some 11) rfl rfl Tryd.func9 (by kernel_rfl) rfl #[] rfl (by (try simp only [List.map_toArray, List.map_cons, List.map_nil]); first | done | rfl | (simp only [List.length_drop, List.length_take]; rfl)) ?_; (with_reducible refine (pandectlaw02_head.calls k  t587 _ ?side1 A3.out).mono ?_); (case side1 => exact tabs_below HT.out (by first | exact upB HB.out | exact HB.out)); rintro e w8 ⟨rfl, hb⟩; refine ⟨_, rfl, ?_⟩; have n0_ := Aside0.mk (below_step (by first | exact upB HB.out | exact HB.out) hb); clear HB; have HB := n0_; clear n0_; (try clear hb); (try clear hb2); (try clear hk); (try clear hi)) | ((with_reducible refine gate_callee (f := 10) rfl ?_); refine goesL_ (some 13) rfl rfl Tryd.func10 (by kernel_rfl) rfl #[.slice A0 l0.length c0] rfl (by (try simp only [List.map_toArray, List.map_cons, List.map_nil]); first | done | rfl | (simp only [List.length_drop, List.length_take]; rfl)) ?_; (with_reducible refine (pandectlaw02_few.calls k _ _ l0 true _ ?side1 ?side2 A4.out).mono ?_); (case side1 => exact upC ((Kd.C_below HR0.out HB.out))); (case side2 => exact HC0.out); rintro e w' ⟨rfl, ⟨nd, rfl⟩⟩; refine ⟨_, rfl, ?_⟩) | ((with_reducible refine gate_callee (f := 13) rfl ?_); refine goesL_ (some 25) rfl rfl Tryd.func13 (by kernel_rfl) rfl #[.slice A0 l0.length c0, .int .i64 (Int.tmod (wrap64 (a1)) (wrap64 ((l0.length : Int) + 1)))] rfl (by (try simp only [List.map_toArray, List.map_cons, List.map_nil]); first | done | rfl | (simp only [List.length_drop, List.length_take]; rfl)) ?_; (with_reducible refine (tree_Link.calls k (fun k_ => k_ < w.heap.size) _ _ l0 (Int.tmod (wrap64 (a1)) (wrap64 ((l0.length : Int) + 1))) t589 t592 _ ?side1 ?side2 A7.out).mono ?_); (case side1 => exact Kd.V_mk HC0.out (Kd.F_below (Kd.C_F Kd.heap_string HR0.out) (by first | exact upB HB.out | exact HB.out))); (case side2 => exact tabs_below HT.out (by first | exact upB HB.out | exact HB.out)); rintro e w9 ⟨v590, rfl, ho0, hb⟩; refine ⟨_, rfl, ?_⟩; have n0_ := Aside0.mk (Kd.R_lower (Kd.R_mono (ok' := fun k_ => True) ho0 (fun _ hk_ => trivial)) (below_size (by first | exact upB HB.out | exact HB.out))); have n1_ := Aside0.mk (below_step (by first | exact upB HB.out | exact HB.out) hb); clear HB; have HO591 := n0_; have HB := n1_; clear n0_ n1_; (try clear hb); (try clear hb2); (try clear hk); (try clear hi); (try clear ho0)))
      go_loopg [9, 10] k (fun kq v9 v10 w' => ∃ (x9_1 : Int) (x10_1 : Int), v9 = .int .i64 x9_1 ∧ v10 = .int .i64 x10_1 ∧ Aside0 (pandectlaw02_TreeGrows.l0 kq l0 t587 (Int.tmod (wrap64 (a1)) (wrap64 ((l0.length : Int) + 1))) t589 t592 x9_1 x10_1 = some r) ∧ Aside0 (kq ≤ k) ∧ Aside0 (Kd.R Kd.string 9 w' w.heap.size (fun _ => True) v590 t589) ∧ Aside0 (Below w.heap.size w w'))
      case atStart => exact ⟨(0), ((l0.length : Int)), (by first | rfl | (simp; done) | (simp [*]; done)), (by first | rfl | (simp; done) | (simp [*]; done)), H', ⟨Nat.le_refl _⟩, ⟨by exact upR HO591.out⟩, ⟨by first | exact upB HB.out | exact HB.out⟩⟩
      case round =>
        clear H'
        try clear c1
        try clear p2
        try clear c5
        try clear c6
        try clear c6b0
        try clear c6b1
        try clear p6
        try clear c7
        try clear c9
        obtain ⟨x9_1, x10_1, rfl, rfl, HA, HK1, HO_7, HB⟩ := hrel
        cases gk with
        | zero => exact absurd HA.out (by simp [pandectlaw02_TreeGrows.l0])
        | succ k1 =>
          have H := HA.out
          clear HA
          simp only [pandectlaw02_TreeGrows.l0] at H
          by_cases c10 : x10_1 > 0
          · rw [if_pos c10] at H
            have c10b0 : decide (0 < x10_1) = true := decide_eq_true c10
            clear c10
            have H' := Aside0.mk H
            clear H
            go_wp2
            go_roundg k1
            case measure => have := HK1.out; omega
            case rel => exact ⟨(wrap64 (x9_1 + 1)), (wrap64 (Int.tdiv x10_1 2)), (by first | rfl | (simp; done) | (simp [*]; done)), (by first | rfl | (simp; done) | (simp [*]; done)), H', ⟨by have := HK1.out; omega⟩, ⟨by exact upR HO_7.out⟩, ⟨by first | exact upB HB.out | exact HB.out⟩⟩
          · rw [if_neg c10] at H
            have c10b0 : decide (0 < x10_1) = false := decide_eq_false c10
            clear c10
            by_cases c11 : t587 = true
            · subst c11
              have H1 : (if t592 = 0 then (if 0 ≤ (Int.tmod (wrap64 (a1)) (wrap64 ((l0.length : Int) + 1))) then (if (Int.tmod (wrap64 (a1)) (wrap64 ((l0.length : Int) + 1))) ≤ (l0.length : Int) then ((tree_Root.f k1 (l0.take ((Int.tmod (wrap64 (a1)) (wrap64 ((l0.length : Int) + 1))) : Int).toNat)).bind fun t594 => ((tree_Root.f k1 l0).bind fun t595 => ((tree_Extends.f t594 (Int.tmod (wrap64 (a1)) (wrap64 ((l0.length : Int) + 1))) t595 (l0.length : Int) t589).bind fun t596 => (if t596 = true then (if (t589.length : Int) ≤ (wrap64 (x9_1 + 1)) then (if (Int.tmod (wrap64 (a1)) (wrap64 ((l0.length : Int) + 1))) = 0 then (some (((t589.length : Int) == 0) == true)) else (some (((t589.length : Int) == 0) == ((Int.tmod (wrap64 (a1)) (wrap64 ((l0.length : Int) + 1))) == (l0.length : Int))))) else (some false)) else (some false))))) else (none)) else (none)) else (some false)) = some r := by rw [if_pos rfl] at H; exact H
              clear H
              have H := H1
              clear H1
              by_cases c12 : t592 = 0
              · rw [if_pos c12] at H
                have c12b0 : (t592 == 0) = true := beq_iff_eq.mpr c12
                have c12b1 : (t592 != 0) = false := bne_eq_false_iff_eq.mpr c12
                clear c12
                obtain ⟨ji13, hji13⟩ : ∃ j_ : Int, (Int.tmod (wrap64 (a1)) (wrap64 ((l0.length : Int) + 1))) = j_ := ⟨_, rfl⟩
                replace H : (if 0 ≤ (ji13) then (if (ji13) ≤ (l0.length : Int) then ((tree_Root.f k1 (l0.take ((ji13) : Int).toNat)).bind fun t594 => ((tree_Root.f k1 l0).bind fun t595 => ((tree_Extends.f t594 (ji13) t595 (l0.length : Int) t589).bind fun t596 => (if t596 = true then (if (t589.length : Int) ≤ (wrap64 (x9_1 + 1)) then (if (ji13) = 0 then (some (((t589.length : Int) == 0) == true)) else (some (((t589.length : Int) == 0) == ((ji13) == (l0.length : Int))))) else (some false)) else (some false))))) else (none)) else (none)) = some r := by first | (rw [hji13] at H; exact H) | (simp only [hji13] at H ⊢; exact H)
                by_cases c14 : 0 ≤ (ji13)
                · rw [if_pos c14] at H
                  have c14b0 := eq_true c14
                  have c14b1 : decide (0 ≤ (ji13)) = true := decide_eq_true c14
                  clear c14
                  by_cases c15 : (ji13) ≤ (l0.length : Int)
                  · rw [if_pos c15] at H
                    have c15b0 := eq_true c15
                    have c15b1 : decide ((ji13) ≤ (l0.length : Int)) = true := decide_eq_true c15
                    clear c15
                    replace H := Option.bind_eq_some_iff.mp H
                    obtain ⟨t594, A160, H⟩ := H
                    replace H : ((tree_Root.f k1 l0).bind fun t595 => ((tree_Extends.f t594 (ji13) t595 (l0.length : Int) t589).bind fun t596 => (if t596 = true then (if (t589.length : Int) ≤ (wrap64 (x9_1 + 1)) then (if (ji13) = 0 then (some (((t589.length : Int) == 0) == true)) else (some (((t589.length : Int) == 0) == ((ji13) == (l0.length : Int))))) else (some false)) else (some false)))) = some r := H
                    have A16 := Aside0.mk A160
                    clear A160
                    replace H := Option.bind_eq_some_iff.mp H
                    obtain ⟨t595, A170, H⟩ := H
                    replace H : ((tree_Extends.f t594 (ji13) t595 (l0.length : Int) t589).bind fun t596 => (if t596 = true then (if (t589.length : Int) ≤ (wrap64 (x9_1 + 1)) then (if (ji13) = 0 then (some (((t589.length : Int) == 0) == true)) else (some (((t589.length : Int) == 0) == ((ji13) == (l0.length : Int))))) else (some false)) else (some false))) = some r := H
                    have A17 := Aside0.mk A170
                    clear A170
                    replace H := Option.bind_eq_some_iff.mp H
                    obtain ⟨t596, A180, H⟩ := H
                    replace H : (if t596 = true then (if (t589.length : Int) ≤ (wrap64 (x9_1 + 1)) then (if (ji13) = 0 then (some (((t589.length : Int) == 0) == true)) else (some (((t589.length : Int) == 0) == ((ji13) == (l0.length : Int))))) else (some false)) else (some false)) = some r := H
                    have A18 := Aside0.mk A180
                    clear A180
                    by_cases c19 : t596 = true
                    · subst c19
                      have H1 : (if (t589.length : Int) ≤ (wrap64 (x9_1 + 1)) then (if (ji13) = 0 then (some (((t589.length : Int) == 0) == true)) else (some (((t589.length : Int) == 0) == ((ji13) == (l0.length : Int))))) else (some false)) = some r := by rw [if_pos rfl] at H; exact H
                      clear H
                      have H := H1
                      clear H1
                      by_cases c20 : (t589.length : Int) ≤ (wrap64 (x9_1 + 1))
                      · rw [if_pos c20] at H
                        have c20b0 : decide ((t589.length : Int) ≤ (wrap64 (x9_1 + 1))) = true := decide_eq_true c20
                        clear c20
                        by_cases c21 : (ji13) = 0
                        · rw [if_pos c21] at H
                          have c21b0 : ((ji13) == 0) = true := beq_iff_eq.mpr c21
                          have c21b1 : ((ji13) != 0) = false := bne_eq_false_iff_eq.mpr c21
                          clear c21
                          obtain rfl := Option.some.inj H
                          obtain ⟨i022, hi022, _, hsz22, _⟩ := info_parts info9
                          obtain ⟨hcut22, hA22, hC22⟩ := print_take_of (P := Tryd.prog) Value.string (⟨#[]⟩ : ByteArray) 22 9 .i64 Tryd.underlying22 hi022 hsz22 A0 c0 l0 (ji13) (of_decide_eq_true (by first | (with_reducible assumption) | assumption)) (of_decide_eq_true (by first | (with_reducible assumption) | assumption)) HC0.out
                          have HR593 := Aside0.mk (Kd.C_of_reads (h1 := fun _ => rfl) (hA22 _ (Kd.reads_of_C HR0.out)))
                          have HC593 := Aside0.mk hC22
                          clear hA22 hC22 hi022 hsz22
                          have tk27_ : True := trivial
                          have tk28_ : True := trivial
                          go_wp2_with (first | (go_at_call 15; clear tk27_; refine calls_of_args (args' := #[.slice A0 (l0.take ((ji13) : Int).toNat).length c0]) (by first | (rw [show (l0.take ((ji13) : Int).toNat).length = (ji13).toNat from (by rw [List.length_take]; have h_ : ((ji13) : Int) ≤ (l0.length : Int) := of_decide_eq_true (by first | (with_reducible assumption) | assumption); omega)] <;> rfl) | (simp only [hji13]; rfl) | rfl | (simp only [List.length_drop, List.length_take]; rfl)) ?_; (with_reducible refine (tree_Root.calls k1 _ _ (l0.take ((ji13) : Int).toNat) t594 _ ?side1 ?side2 ?side3 A16.out).mono ?_); (case side1 => exact upC ((Kd.C_below HR593.out HB.out))); (case side2 => exact HC593.out); (case side3 => exact tabs_below HT.out (by first | exact upB HB.out | exact HB.out)); rintro e w23 ⟨rfl, hb⟩; have n0_ := Aside0.mk (Kd.R_below (by exact upR HO_7.out) hb); have n1_ := Aside0.mk (below_step (by first | exact upB HB.out | exact HB.out) hb); clear HO_7; clear HB; have HO_7 := n0_; have HB := n1_; clear n0_ n1_; (try clear hb); (try clear hb2); (try clear hk); (try clear hi)) | (go_at_call 15; clear tk28_; (with_reducible refine (tree_Root.calls k1 _ _ l0 t595 _ ?side1 ?side2 ?side3 A17.out).mono ?_); (case side1 => exact upC ((Kd.C_below HR0.out HB.out))); (case side2 => exact HC0.out); (case side3 => exact tabs_below HT.out (by first | exact upB HB.out | exact HB.out)); rintro e w24 ⟨rfl, hb⟩; have n0_ := Aside0.mk (Kd.R_below (by exact upR HO_7.out) hb); have n1_ := Aside0.mk (below_step (by first | exact upB HB.out | exact HB.out) hb); clear HO_7; clear HB; have HO_7 := n0_; have HB := n1_; clear n0_ n1_; (try clear hb); (try clear hb2); (try clear hk); (try clear hi); obtain ⟨Ao25, co25, eo25⟩ := Kd.R_slice HO_7.out; subst eo25) | (go_at_call 20; (with_reducible refine (tree_Extends.calls t594 (ji13) t595 (l0.length : Int) _ _ t589 true _ ?side1 ?side2 ?side3 A18.out).mono ?_); (case side1 => exact upC ((Kd.R_reads' HO_7.out).2.2)); (case side2 => exact (Kd.R_reads' HO_7.out).2.1); (case side3 => exact tabs_below HT.out (by first | exact upB HB.out | exact HB.out)); rintro e w26 ⟨rfl, hb⟩; have n0_ := Aside0.mk (Kd.R_below (by exact upR HO_7.out) hb); have n1_ := Aside0.mk (below_step (by first | exact upB HB.out | exact HB.out) hb); clear HO_7; clear HB; have HO_7 := n0_; have HB := n1_; clear n0_ n1_; (try clear hb); (try clear hb2); (try clear hk); (try clear hi)))
                          go_ret
                          exact ⟨by first | rfl | (simp [errW_none, errW_some] <;> rfl) | (simp only [← hji13]; first | rfl | (simp [errW_none, errW_some] <;> rfl)) | (simp [*, errW_none, errW_some] <;> rfl), by first | exact upB HB.out | exact HB.out⟩
                        · rw [if_neg c21] at H
                          have c21b0 : ((ji13) == 0) = false := beq_eq_false_iff_ne.mpr c21
                          have c21b1 : ((ji13) != 0) = true := bne_iff_ne.mpr c21
                          obtain rfl := Option.some.inj H
                          (try clear hcut22)
                          obtain ⟨i029, hi029, _, hsz29, _⟩ := info_parts info9
                          obtain ⟨hcut29, hA29, hC29⟩ := print_take_of (P := Tryd.prog) Value.string (⟨#[]⟩ : ByteArray) 22 9 .i64 Tryd.underlying22 hi029 hsz29 A0 c0 l0 (ji13) (of_decide_eq_true (by first | (with_reducible assumption) | assumption)) (of_decide_eq_true (by first | (with_reducible assumption) | assumption)) HC0.out
                          have HR593 := Aside0.mk (Kd.C_of_reads (h1 := fun _ => rfl) (hA29 _ (Kd.reads_of_C HR0.out)))
                          have HC593 := Aside0.mk hC29
                          clear hA29 hC29 hi029 hsz29
                          have tk34_ : True := trivial
                          have tk35_ : True := trivial
                          go_wp2_with (first | (go_at_call 15; clear tk34_; refine calls_of_args (args' := #[.slice A0 (l0.take ((ji13) : Int).toNat).length c0]) (by first | (rw [show (l0.take ((ji13) : Int).toNat).length = (ji13).toNat from (by rw [List.length_take]; have h_ : ((ji13) : Int) ≤ (l0.length : Int) := of_decide_eq_true (by first | (with_reducible assumption) | assumption); omega)] <;> rfl) | (simp only [hji13]; rfl) | rfl | (simp only [List.length_drop, List.length_take]; rfl)) ?_; (with_reducible refine (tree_Root.calls k1 _ _ (l0.take ((ji13) : Int).toNat) t594 _ ?side1 ?side2 ?side3 A16.out).mono ?_); (case side1 => exact upC ((Kd.C_below HR593.out HB.out))); (case side2 => exact HC593.out); (case side3 => exact tabs_below HT.out (by first | exact upB HB.out | exact HB.out)); rintro e w30 ⟨rfl, hb⟩; have n0_ := Aside0.mk (Kd.R_below (by exact upR HO_7.out) hb); have n1_ := Aside0.mk (below_step (by first | exact upB HB.out | exact HB.out) hb); clear HO_7; clear HB; have HO_7 := n0_; have HB := n1_; clear n0_ n1_; (try clear hb); (try clear hb2); (try clear hk); (try clear hi)) | (go_at_call 15; clear tk35_; (with_reducible refine (tree_Root.calls k1 _ _ l0 t595 _ ?side1 ?side2 ?side3 A17.out).mono ?_); (case side1 => exact upC ((Kd.C_below HR0.out HB.out))); (case side2 => exact HC0.out); (case side3 => exact tabs_below HT.out (by first | exact upB HB.out | exact HB.out)); rintro e w31 ⟨rfl, hb⟩; have n0_ := Aside0.mk (Kd.R_below (by exact upR HO_7.out) hb); have n1_ := Aside0.mk (below_step (by first | exact upB HB.out | exact HB.out) hb); clear HO_7; clear HB; have HO_7 := n0_; have HB := n1_; clear n0_ n1_; (try clear hb); (try clear hb2); (try clear hk); (try clear hi); obtain ⟨Ao32, co32, eo32⟩ := Kd.R_slice HO_7.out; subst eo32) | (go_at_call 20; (with_reducible refine (tree_Extends.calls t594 (ji13) t595 (l0.length : Int) _ _ t589 true _ ?side1 ?side2 ?side3 A18.out).mono ?_); (case side1 => exact upC ((Kd.R_reads' HO_7.out).2.2)); (case side2 => exact (Kd.R_reads' HO_7.out).2.1); (case side3 => exact tabs_below HT.out (by first | exact upB HB.out | exact HB.out)); rintro e w33 ⟨rfl, hb⟩; have n0_ := Aside0.mk (Kd.R_below (by exact upR HO_7.out) hb); have n1_ := Aside0.mk (below_step (by first | exact upB HB.out | exact HB.out) hb); clear HO_7; clear HB; have HO_7 := n0_; have HB := n1_; clear n0_ n1_; (try clear hb); (try clear hb2); (try clear hk); (try clear hi)))
                          go_ret
                          exact ⟨by first | rfl | (simp [errW_none, errW_some] <;> rfl) | (simp only [← hji13]; first | rfl | (simp [errW_none, errW_some] <;> rfl)) | (simp [*, errW_none, errW_some] <;> rfl), by first | exact upB HB.out | exact HB.out⟩
                      · rw [if_neg c20] at H
                        have c20b0 : decide ((t589.length : Int) ≤ (wrap64 (x9_1 + 1))) = false := decide_eq_false c20
                        clear c20
                        obtain rfl := Option.some.inj H
                        (try clear hcut22)
                        (try clear hcut29)
                        obtain ⟨i036, hi036, _, hsz36, _⟩ := info_parts info9
                        obtain ⟨hcut36, hA36, hC36⟩ := print_take_of (P := Tryd.prog) Value.string (⟨#[]⟩ : ByteArray) 22 9 .i64 Tryd.underlying22 hi036 hsz36 A0 c0 l0 (ji13) (of_decide_eq_true (by first | (with_reducible assumption) | assumption)) (of_decide_eq_true (by first | (with_reducible assumption) | assumption)) HC0.out
                        have HR593 := Aside0.mk (Kd.C_of_reads (h1 := fun _ => rfl) (hA36 _ (Kd.reads_of_C HR0.out)))
                        have HC593 := Aside0.mk hC36
                        clear hA36 hC36 hi036 hsz36
                        have tk41_ : True := trivial
                        have tk42_ : True := trivial
                        go_wp2_with (first | (go_at_call 15; clear tk41_; refine calls_of_args (args' := #[.slice A0 (l0.take ((ji13) : Int).toNat).length c0]) (by first | (rw [show (l0.take ((ji13) : Int).toNat).length = (ji13).toNat from (by rw [List.length_take]; have h_ : ((ji13) : Int) ≤ (l0.length : Int) := of_decide_eq_true (by first | (with_reducible assumption) | assumption); omega)] <;> rfl) | (simp only [hji13]; rfl) | rfl | (simp only [List.length_drop, List.length_take]; rfl)) ?_; (with_reducible refine (tree_Root.calls k1 _ _ (l0.take ((ji13) : Int).toNat) t594 _ ?side1 ?side2 ?side3 A16.out).mono ?_); (case side1 => exact upC ((Kd.C_below HR593.out HB.out))); (case side2 => exact HC593.out); (case side3 => exact tabs_below HT.out (by first | exact upB HB.out | exact HB.out)); rintro e w37 ⟨rfl, hb⟩; have n0_ := Aside0.mk (Kd.R_below (by exact upR HO_7.out) hb); have n1_ := Aside0.mk (below_step (by first | exact upB HB.out | exact HB.out) hb); clear HO_7; clear HB; have HO_7 := n0_; have HB := n1_; clear n0_ n1_; (try clear hb); (try clear hb2); (try clear hk); (try clear hi)) | (go_at_call 15; clear tk42_; (with_reducible refine (tree_Root.calls k1 _ _ l0 t595 _ ?side1 ?side2 ?side3 A17.out).mono ?_); (case side1 => exact upC ((Kd.C_below HR0.out HB.out))); (case side2 => exact HC0.out); (case side3 => exact tabs_below HT.out (by first | exact upB HB.out | exact HB.out)); rintro e w38 ⟨rfl, hb⟩; have n0_ := Aside0.mk (Kd.R_below (by exact upR HO_7.out) hb); have n1_ := Aside0.mk (below_step (by first | exact upB HB.out | exact HB.out) hb); clear HO_7; clear HB; have HO_7 := n0_; have HB := n1_; clear n0_ n1_; (try clear hb); (try clear hb2); (try clear hk); (try clear hi); obtain ⟨Ao39, co39, eo39⟩ := Kd.R_slice HO_7.out; subst eo39) | (go_at_call 20; (with_reducible refine (tree_Extends.calls t594 (ji13) t595 (l0.length : Int) _ _ t589 true _ ?side1 ?side2 ?side3 A18.out).mono ?_); (case side1 => exact upC ((Kd.R_reads' HO_7.out).2.2)); (case side2 => exact (Kd.R_reads' HO_7.out).2.1); (case side3 => exact tabs_below HT.out (by first | exact upB HB.out | exact HB.out)); rintro e w40 ⟨rfl, hb⟩; have n0_ := Aside0.mk (Kd.R_below (by exact upR HO_7.out) hb); have n1_ := Aside0.mk (below_step (by first | exact upB HB.out | exact HB.out) hb); clear HO_7; clear HB; have HO_7 := n0_; have HB := n1_; clear n0_ n1_; (try clear hb); (try clear hb2); (try clear hk); (try clear hi)))
                        go_ret
                        exact ⟨by first | rfl | (simp [errW_none, errW_some] <;> rfl) | (simp only [← hji13]; first | rfl | (simp [errW_none, errW_some] <;> rfl)) | (simp [*, errW_none, errW_some] <;> rfl), by first | exact upB HB.out | exact HB.out⟩
                    · replace c19 := Bool.eq_false_iff.mpr c19
                      subst c19
                      have H1 : (some false) = some r := by rw [if_neg (show ¬ (false = true) by decide)] at H; exact H
                      clear H
                      have H := H1
                      clear H1
                      obtain rfl := Option.some.inj H
                      (try clear hcut22)
                      (try clear hcut29)
                      (try clear hcut36)
                      obtain ⟨i043, hi043, _, hsz43, _⟩ := info_parts info9
                      obtain ⟨hcut43, hA43, hC43⟩ := print_take_of (P := Tryd.prog) Value.string (⟨#[]⟩ : ByteArray) 22 9 .i64 Tryd.underlying22 hi043 hsz43 A0 c0 l0 (ji13) (of_decide_eq_true (by first | (with_reducible assumption) | assumption)) (of_decide_eq_true (by first | (with_reducible assumption) | assumption)) HC0.out
                      have HR593 := Aside0.mk (Kd.C_of_reads (h1 := fun _ => rfl) (hA43 _ (Kd.reads_of_C HR0.out)))
                      have HC593 := Aside0.mk hC43
                      clear hA43 hC43 hi043 hsz43
                      have tk48_ : True := trivial
                      have tk49_ : True := trivial
                      go_wp2_with (first | (go_at_call 15; clear tk48_; refine calls_of_args (args' := #[.slice A0 (l0.take ((ji13) : Int).toNat).length c0]) (by first | (rw [show (l0.take ((ji13) : Int).toNat).length = (ji13).toNat from (by rw [List.length_take]; have h_ : ((ji13) : Int) ≤ (l0.length : Int) := of_decide_eq_true (by first | (with_reducible assumption) | assumption); omega)] <;> rfl) | (simp only [hji13]; rfl) | rfl | (simp only [List.length_drop, List.length_take]; rfl)) ?_; (with_reducible refine (tree_Root.calls k1 _ _ (l0.take ((ji13) : Int).toNat) t594 _ ?side1 ?side2 ?side3 A16.out).mono ?_); (case side1 => exact upC ((Kd.C_below HR593.out HB.out))); (case side2 => exact HC593.out); (case side3 => exact tabs_below HT.out (by first | exact upB HB.out | exact HB.out)); rintro e w44 ⟨rfl, hb⟩; have n0_ := Aside0.mk (Kd.R_below (by exact upR HO_7.out) hb); have n1_ := Aside0.mk (below_step (by first | exact upB HB.out | exact HB.out) hb); clear HO_7; clear HB; have HO_7 := n0_; have HB := n1_; clear n0_ n1_; (try clear hb); (try clear hb2); (try clear hk); (try clear hi)) | (go_at_call 15; clear tk49_; (with_reducible refine (tree_Root.calls k1 _ _ l0 t595 _ ?side1 ?side2 ?side3 A17.out).mono ?_); (case side1 => exact upC ((Kd.C_below HR0.out HB.out))); (case side2 => exact HC0.out); (case side3 => exact tabs_below HT.out (by first | exact upB HB.out | exact HB.out)); rintro e w45 ⟨rfl, hb⟩; have n0_ := Aside0.mk (Kd.R_below (by exact upR HO_7.out) hb); have n1_ := Aside0.mk (below_step (by first | exact upB HB.out | exact HB.out) hb); clear HO_7; clear HB; have HO_7 := n0_; have HB := n1_; clear n0_ n1_; (try clear hb); (try clear hb2); (try clear hk); (try clear hi); obtain ⟨Ao46, co46, eo46⟩ := Kd.R_slice HO_7.out; subst eo46) | (go_at_call 20; (with_reducible refine (tree_Extends.calls t594 (ji13) t595 (l0.length : Int) _ _ t589 false _ ?side1 ?side2 ?side3 A18.out).mono ?_); (case side1 => exact upC ((Kd.R_reads' HO_7.out).2.2)); (case side2 => exact (Kd.R_reads' HO_7.out).2.1); (case side3 => exact tabs_below HT.out (by first | exact upB HB.out | exact HB.out)); rintro e w47 ⟨rfl, hb⟩; have n0_ := Aside0.mk (Kd.R_below (by exact upR HO_7.out) hb); have n1_ := Aside0.mk (below_step (by first | exact upB HB.out | exact HB.out) hb); clear HO_7; clear HB; have HO_7 := n0_; have HB := n1_; clear n0_ n1_; (try clear hb); (try clear hb2); (try clear hk); (try clear hi)))
                      go_ret
                      exact ⟨by first | rfl | (simp [errW_none, errW_some] <;> rfl) | (simp only [← hji13]; first | rfl | (simp [errW_none, errW_some] <;> rfl)) | (simp [*, errW_none, errW_some] <;> rfl), by first | exact upB HB.out | exact HB.out⟩
                  · rw [if_neg c15] at H
                    exact absurd H (by simp)
                · rw [if_neg c14] at H
                  exact absurd H (by simp)
              · rw [if_neg c12] at H
                have c12b0 : (t592 == 0) = false := beq_eq_false_iff_ne.mpr c12
                have c12b1 : (t592 != 0) = true := bne_iff_ne.mpr c12
                obtain rfl := Option.some.inj H
                go_wp2
                go_ret
                exact ⟨by first | rfl | (simp [errW_none, errW_some] <;> rfl) | (simp [*, errW_none, errW_some] <;> rfl), by first | exact upB HB.out | exact HB.out⟩
            · replace c11 := Bool.eq_false_iff.mpr c11
              subst c11
              have H1 : (some false) = some r := by rw [if_neg (show ¬ (false = true) by decide)] at H; exact H
              clear H
              have H := H1
              clear H1
              obtain rfl := Option.some.inj H
              go_wp2
              go_ret
              exact ⟨by first | rfl | (simp [errW_none, errW_some] <;> rfl) | (simp [*, errW_none, errW_some] <;> rfl), by first | exact upB HB.out | exact HB.out⟩
  · replace c5 := Bool.eq_false_iff.mpr c5
    subst c5
    have H1 : (some t587) = some r := by rw [if_neg (show ¬ (false = true) by decide)] at H; exact H
    clear H
    have H := H1
    clear H1
    obtain rfl := Option.some.inj H
    go_enter Tryd.func7, Tryd.ntmps7
    go_wp2_with (first | ((with_reducible refine gate_callee (f := 9) rfl ?_); refine goesL_ (some 11) rfl rfl Tryd.func9 (by kernel_rfl) rfl #[] rfl (by (try simp only [List.map_toArray, List.map_cons, List.map_nil]); first | done | rfl | (simp only [List.length_drop, List.length_take]; rfl)) ?_; (with_reducible refine (pandectlaw02_head.calls k  t587 _ ?side1 A3.out).mono ?_); (case side1 => exact tabs_below HT.out (by first | exact upB HB.out | exact HB.out)); rintro e w50 ⟨rfl, hb⟩; refine ⟨_, rfl, ?_⟩; have n0_ := Aside0.mk (below_step (by first | exact upB HB.out | exact HB.out) hb); clear HB; have HB := n0_; clear n0_; (try clear hb); (try clear hb2); (try clear hk); (try clear hi)) | ((with_reducible refine gate_callee (f := 10) rfl ?_); refine goesL_ (some 13) rfl rfl Tryd.func10 (by kernel_rfl) rfl #[.slice A0 l0.length c0] rfl (by (try simp only [List.map_toArray, List.map_cons, List.map_nil]); first | done | rfl | (simp only [List.length_drop, List.length_take]; rfl)) ?_; (with_reducible refine (pandectlaw02_few.calls k _ _ l0 false _ ?side1 ?side2 A4.out).mono ?_); (case side1 => exact upC ((Kd.C_below HR0.out HB.out))); (case side2 => exact HC0.out); rintro e w' ⟨rfl, ⟨nd, rfl⟩⟩; refine ⟨_, rfl, ?_⟩))
    go_ret
    exact ⟨by first | rfl | (simp [errW_none, errW_some] <;> rfl) | (simp [*, errW_none, errW_some] <;> rfl), by first | exact upB HB.out | exact HB.out⟩

/-! ### pandectref02_LinkTexts: function 25 -/
end Go.Proofs.YteofiiggnegnkaaDoor.P
