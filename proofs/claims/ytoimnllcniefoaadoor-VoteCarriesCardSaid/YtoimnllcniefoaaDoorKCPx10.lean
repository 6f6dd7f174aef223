import Derived.Test.YtoimnllcniefoaaDoorKPx0
import Derived.Test.YtoimnllcniefoaaDoorKCPx9
import Derived.Test.YtoimnllcniefoaaDoorKD
import Derived.Test.YtoimnllcniefoaaDoorKTa
set_option linter.unusedVariables false
set_option linter.unusedSimpArgs false
-- PRINTED by print.py (a twelfth state) out of the translation. Not trusted: Lean checks it.
namespace Go.Proofs.YtoimnllcniefoaaDoor.P
open Go.RowKit Go.Proofs.YtoimnllcniefoaaDoorW.PrintWords Go.Proofs.YtoimnllcniefoaaDoorW.PrintLast Go.Proofs.YtoimnllcniefoaaDoorW.PrintMore
attribute [local go_sem] max2_int min2_int max_two min_two max_three min_three max_four min_four   -- for this text's walks alone
set_option linter.unusedVariables false
set_option linter.unusedSimpArgs false

/-! ### pandectref39_Proper: function 20 -/
mutual
def pandectref39_Proper.j0 : Nat → Int → Bool → Int → List ByteArray → Int → Int → Int → Option (Bool)
  | 0, _, _, _, _, _, _, _ => none
  | k + 1, x3, x51, x342000, x342001, x342002, x342003, x342004 => if x51 = true then (some false) else (pandectref39_Proper.l0 k x3 0 x342000 x342001 x342002 x342003 x342004)
def pandectref39_Proper.l0 : Nat → Int → Int → Int → List ByteArray → Int → Int → Int → Option (Bool)
  | 0, _, _, _, _, _, _, _ => none
  | k + 1, x3, x4, x342000, x342001, x342002, x342003, x342004 => if x4 < x3 then (if 0 ≤ x4 then (if x4 < (x342001.length : Int) then ((pandectref01_Is.f k (rdOf ByteArray.empty x342001 x4)).bind fun t343 => (if t343 = true then (pandectref39_Proper.l0 k x3 (wrap64 (x4 + 1)) x342000 x342001 x342002 x342003 x342004) else (some false))) else (none)) else (none)) else (some true)
end
def pandectref39_Proper.f (k : Nat) (a0_0 : Int) (l0_1 : List ByteArray) (a0_2 : Int) (a0_3 : Int) (a0_4 : Int) : Option (Bool) := if a0_0 = 1 then (if (l0_1.length : Int) < 1 then (pandectref39_Proper.j0 k (l0_1.length : Int) true a0_0 l0_1 a0_2 a0_3 a0_4) else (if (l0_1.length : Int) > 60 then (pandectref39_Proper.j0 k (l0_1.length : Int) true a0_0 l0_1 a0_2 a0_3 a0_4) else (if a0_2 < 1 then (pandectref39_Proper.j0 k (l0_1.length : Int) true a0_0 l0_1 a0_2 a0_3 a0_4) else (if a0_2 > (l0_1.length : Int) then (pandectref39_Proper.j0 k (l0_1.length : Int) true a0_0 l0_1 a0_2 a0_3 a0_4) else (if a0_3 < 0 then (pandectref39_Proper.j0 k (l0_1.length : Int) true a0_0 l0_1 a0_2 a0_3 a0_4) else (if a0_3 ≥ a0_4 then (pandectref39_Proper.j0 k (l0_1.length : Int) true a0_0 l0_1 a0_2 a0_3 a0_4) else (pandectref39_Proper.j0 k (l0_1.length : Int) (decide (a0_4 > 60)) a0_0 l0_1 a0_2 a0_3 a0_4))))))) else (if a0_0 = 2 then (if (l0_1.length : Int) < 1 then (pandectref39_Proper.j0 k (l0_1.length : Int) true a0_0 l0_1 a0_2 a0_3 a0_4) else (if (l0_1.length : Int) > 60 then (pandectref39_Proper.j0 k (l0_1.length : Int) true a0_0 l0_1 a0_2 a0_3 a0_4) else (if a0_2 < 1 then (pandectref39_Proper.j0 k (l0_1.length : Int) true a0_0 l0_1 a0_2 a0_3 a0_4) else (if a0_2 > (l0_1.length : Int) then (pandectref39_Proper.j0 k (l0_1.length : Int) true a0_0 l0_1 a0_2 a0_3 a0_4) else (if a0_3 < 0 then (pandectref39_Proper.j0 k (l0_1.length : Int) true a0_0 l0_1 a0_2 a0_3 a0_4) else (if a0_3 ≥ a0_4 then (pandectref39_Proper.j0 k (l0_1.length : Int) true a0_0 l0_1 a0_2 a0_3 a0_4) else (pandectref39_Proper.j0 k (l0_1.length : Int) (decide (a0_4 > 60)) a0_0 l0_1 a0_2 a0_3 a0_4))))))) else (pandectref39_Proper.j0 k (l0_1.length : Int) true a0_0 l0_1 a0_2 a0_3 a0_4))
set_option maxHeartbeats 8000000 in
set_option maxRecDepth 100000 in
theorem pandectref39_Proper.calls (k : Nat) (a0_0 : Int) (A0_1 : Option Addr) (c0_1 : Nat) (l0_1 : List ByteArray) (a0_2 : Int) (a0_3 : Int) (a0_4 : Int) (r : Bool) (w : World) (hr0_1 : Kd.C Kd.string w A0_1 l0_1.length l0_1) (hc0_1 : l0_1.length ≤ c0_1) (h : pandectref39_Proper.f k a0_0 l0_1 a0_2 a0_3 a0_4 = some r) :
    Calls Tryd.prog 20 #[.agg #[.int .i64 a0_0, .slice A0_1 l0_1.length c0_1, .int .i64 a0_2, .int .i64 a0_3, .int .i64 a0_4]] w fun e w' => e = .returned (.bool r) ∧ Below w.heap.size w w' := by
  have hu24 := Tryd.underlying24
  have HR0_1 := Aside0.mk hr0_1
  have HC0_1 := Aside0.mk hc0_1
  clear hr0_1 hc0_1
  have HB := Aside0.mk (Below.refl w.heap.size w)
  have H : (if a0_0 = 1 then (if (l0_1.length : Int) < 1 then (pandectref39_Proper.j0 k (l0_1.length : Int) true a0_0 l0_1 a0_2 a0_3 a0_4) else (if (l0_1.length : Int) > 60 then (pandectref39_Proper.j0 k (l0_1.length : Int) true a0_0 l0_1 a0_2 a0_3 a0_4) else (if a0_2 < 1 then (pandectref39_Proper.j0 k (l0_1.length : Int) true a0_0 l0_1 a0_2 a0_3 a0_4) else (if a0_2 > (l0_1.length : Int) then (pandectref39_Proper.j0 k (l0_1.length : Int) true a0_0 l0_1 a0_2 a0_3 a0_4) else (if a0_3 < 0 then (pandectref39_Proper.j0 k (l0_1.length : Int) true a0_0 l0_1 a0_2 a0_3 a0_4) else (if a0_3 ≥ a0_4 then (pandectref39_Proper.j0 k (l0_1.length : Int) true a0_0 l0_1 a0_2 a0_3 a0_4) else (pandectref39_Proper.j0 k (l0_1.length : Int) (decide (a0_4 > 60)) a0_0 l0_1 a0_2 a0_3 a0_4))))))) else (if a0_0 = 2 then (if (l0_1.length : Int) < 1 then (pandectref39_Proper.j0 k (l0_1.length : Int) true a0_0 l0_1 a0_2 a0_3 a0_4) else (if (l0_1.length : Int) > 60 then (pandectref39_Proper.j0 k (l0_1.length : Int) true a0_0 l0_1 a0_2 a0_3 a0_4) else (if a0_2 < 1 then (pandectref39_Proper.j0 k (l0_1.length : Int) true a0_0 l0_1 a0_2 a0_3 a0_4) else (if a0_2 > (l0_1.length : Int) then (pandectref39_Proper.j0 k (l0_1.length : Int) true a0_0 l0_1 a0_2 a0_3 a0_4) else (if a0_3 < 0 then (pandectref39_Proper.j0 k (l0_1.length : Int) true a0_0 l0_1 a0_2 a0_3 a0_4) else (if a0_3 ≥ a0_4 then (pandectref39_Proper.j0 k (l0_1.length : Int) true a0_0 l0_1 a0_2 a0_3 a0_4) else (pandectref39_Proper.j0 k (l0_1.length : Int) (decide (a0_4 > 60)) a0_0 l0_1 a0_2 a0_3 a0_4))))))) else (pandectref39_Proper.j0 k (l0_1.length : Int) true a0_0 l0_1 a0_2 a0_3 a0_4))) = some r := h
  clear h
  have HC2 := Aside0.mk H
  clear H
  go_enter Tryd.func20, Tryd.ntmps20
  go_upto_region 2 with (first | ((with_reducible refine gate_dst (N := 1) rfl ?_); refine box_event ?hg (N := 1) ?hd (cs := #[.int .i64 a0_0, .slice A0_1 l0_1.length c0_1, .int .i64 a0_2, .int .i64 a0_3, .int .i64 a0_4]) (t := 24) ?hr ?_; (case hd => rfl); (case hg => rfl); (case hr => first | (go_simp; done) | (go_simp; rfl)); intro gb341 hg w3 hbox hb; have n0_ := Aside0.mk (below_step (by first | exact upB HB.out | exact HB.out) hb); have n1_ := Aside0.mk (hbox); have n2_ := Aside0.mk ((by rw [hg]; exact (below_size (by first | exact upB HB.out | exact HB.out)) : w.heap.size ≤ gb341)); have n3_ := Aside0.mk ((by rw [hg]; exact (below_size (by first | exact upB HB.out | exact HB.out)) : w.heap.size ≤ gb341)); clear HB; have HB := n0_; have BK341 := n1_; have GW341 := n2_; have GE341 := n3_; clear n0_ n1_ n2_ n3_; clear hb hbox hg; have hcz4_0 : w3.cell? ⟨gb341, 0, none⟩ = some (.int .i64 a0_0) := (blk_cell BK341.out 0).trans rfl; have hcz4_1 : w3.cell? ⟨gb341, 1, none⟩ = some (.slice A0_1 l0_1.length c0_1) := (blk_cell BK341.out 1).trans rfl; have hcz4_2 : w3.cell? ⟨gb341, 2, none⟩ = some (.int .i64 a0_2) := (blk_cell BK341.out 2).trans rfl; have hcz4_3 : w3.cell? ⟨gb341, 3, none⟩ = some (.int .i64 a0_3) := (blk_cell BK341.out 3).trans rfl; have hcz4_4 : w3.cell? ⟨gb341, 4, none⟩ = some (.int .i64 a0_4) := (blk_cell BK341.out 4).trans rfl; have hfz4_0 := blk_frozen BK341.out 0; have hfz4_1 := blk_frozen BK341.out 1; have hfz4_2 := blk_frozen BK341.out 2; have hfz4_3 := blk_frozen BK341.out 3; have hfz4_4 := blk_frozen BK341.out 4))
  (try simp only [Act.put, List.setIfInBounds_toArray, List.set_cons_zero, List.set_cons_succ])
  go_cut [51] (fun v51 wc => ∃ (kq : Nat) (x51_1 : Bool), v51 = .bool x51_1 ∧ Aside0 (pandectref39_Proper.j0 kq (l0_1.length : Int) x51_1 a0_0 l0_1 a0_2 a0_3 a0_4 = some r) ∧ Aside0 (kq ≤ k) ∧ Aside0 (wc.heap[gb341]? = some (.cells #[.int .i64 a0_0, (.slice A0_1 l0_1.length c0_1), .int .i64 a0_2, .int .i64 a0_3, .int .i64 a0_4] 24 (0, 0))) ∧ Aside0 (Below w.heap.size w wc))
  case first =>
    have H := HC2.out
    clear HC2
    by_cases c5 : a0_0 = 1
    · rw [if_pos c5] at H
      have c5b0 : (a0_0 == 1) = true := beq_iff_eq.mpr c5
      have c5b1 : (a0_0 != 1) = false := bne_eq_false_iff_eq.mpr c5
      clear c5
      (first | rw [c5b0] | (simp only [i64_w, i32_w]; rw [c5b0]) | skip)
      by_cases c6 : (l0_1.length : Int) < 1
      · rw [if_pos c6] at H
        have c6b0 : decide ((l0_1.length : Int) < 1) = true := decide_eq_true c6
        have c6b1 : decide (l0_1.length < 1) = true := decide_eq_true (by omega)
        clear c6
        have H' := Aside0.mk H
        clear H
        have hcz7_0 : w3.cell? ⟨gb341, 0, none⟩ = some (.int .i64 a0_0) := (blk_cell BK341.out 0).trans rfl
        have hcz7_1 : w3.cell? ⟨gb341, 1, none⟩ = some (.slice A0_1 l0_1.length c0_1) := (blk_cell BK341.out 1).trans rfl
        have hcz7_2 : w3.cell? ⟨gb341, 2, none⟩ = some (.int .i64 a0_2) := (blk_cell BK341.out 2).trans rfl
        have hcz7_3 : w3.cell? ⟨gb341, 3, none⟩ = some (.int .i64 a0_3) := (blk_cell BK341.out 3).trans rfl
        have hcz7_4 : w3.cell? ⟨gb341, 4, none⟩ = some (.int .i64 a0_4) := (blk_cell BK341.out 4).trans rfl
        have hfz7_0 := blk_frozen BK341.out 0
        have hfz7_1 := blk_frozen BK341.out 1
        have hfz7_2 := blk_frozen BK341.out 2
        have hfz7_3 := blk_frozen BK341.out 3
        have hfz7_4 := blk_frozen BK341.out 4
        go_wp2
        go_meet
        case rel => exact ⟨_, (true), (by first | rfl | (simp; done) | (simp [*]; done)), H', ⟨by first | omega | exact Nat.le_refl _⟩, ⟨by (with_reducible repeat (first | refine blk_drewN ?_ _ | refine blk_drew ?_ | refine blk_alloc ?_ _)); exact BK341.out⟩, ⟨by repeat (first | (with_reducible first | exact HB.out | apply below_alloc | apply pw_below_drewN | apply below_drew1 | refine below_set ?_ GE341.out) | exact HB.out)⟩⟩
      · rw [if_neg c6] at H
        have c6b0 : decide ((l0_1.length : Int) < 1) = false := decide_eq_false c6
        have c6b1 : decide (l0_1.length < 1) = false := decide_eq_false (by omega)
        clear c6
        by_cases c8 : (l0_1.length : Int) > 60
        · rw [if_pos c8] at H
          have c8b0 : decide (60 < (l0_1.length : Int)) = true := decide_eq_true c8
          have c8b1 : decide (60 < l0_1.length) = true := decide_eq_true (by omega)
          clear c8
          have H' := Aside0.mk H
          clear H
          have hcz9_0 : w3.cell? ⟨gb341, 0, none⟩ = some (.int .i64 a0_0) := (blk_cell BK341.out 0).trans rfl
          have hcz9_1 : w3.cell? ⟨gb341, 1, none⟩ = some (.slice A0_1 l0_1.length c0_1) := (blk_cell BK341.out 1).trans rfl
          have hcz9_2 : w3.cell? ⟨gb341, 2, none⟩ = some (.int .i64 a0_2) := (blk_cell BK341.out 2).trans rfl
          have hcz9_3 : w3.cell? ⟨gb341, 3, none⟩ = some (.int .i64 a0_3) := (blk_cell BK341.out 3).trans rfl
          have hcz9_4 : w3.cell? ⟨gb341, 4, none⟩ = some (.int .i64 a0_4) := (blk_cell BK341.out 4).trans rfl
          have hfz9_0 := blk_frozen BK341.out 0
          have hfz9_1 := blk_frozen BK341.out 1
          have hfz9_2 := blk_frozen BK341.out 2
          have hfz9_3 := blk_frozen BK341.out 3
          have hfz9_4 := blk_frozen BK341.out 4
          go_wp2
          go_meet
          case rel => exact ⟨_, (true), (by first | rfl | (simp; done) | (simp [*]; done)), H', ⟨by first | omega | exact Nat.le_refl _⟩, ⟨by (with_reducible repeat (first | refine blk_drewN ?_ _ | refine blk_drew ?_ | refine blk_alloc ?_ _)); exact BK341.out⟩, ⟨by repeat (first | (with_reducible first | exact HB.out | apply below_alloc | apply pw_below_drewN | apply below_drew1 | refine below_set ?_ GE341.out) | exact HB.out)⟩⟩
        · rw [if_neg c8] at H
          have c8b0 : decide (60 < (l0_1.length : Int)) = false := decide_eq_false c8
          have c8b1 : decide (60 < l0_1.length) = false := decide_eq_false (by omega)
          clear c8
          by_cases c10 : a0_2 < 1
          · rw [if_pos c10] at H
            have c10b0 : decide (a0_2 < 1) = true := decide_eq_true c10
            clear c10
            have H' := Aside0.mk H
            clear H
            have hcz11_0 : w3.cell? ⟨gb341, 0, none⟩ = some (.int .i64 a0_0) := (blk_cell BK341.out 0).trans rfl
            have hcz11_1 : w3.cell? ⟨gb341, 1, none⟩ = some (.slice A0_1 l0_1.length c0_1) := (blk_cell BK341.out 1).trans rfl
            have hcz11_2 : w3.cell? ⟨gb341, 2, none⟩ = some (.int .i64 a0_2) := (blk_cell BK341.out 2).trans rfl
            have hcz11_3 : w3.cell? ⟨gb341, 3, none⟩ = some (.int .i64 a0_3) := (blk_cell BK341.out 3).trans rfl
            have hcz11_4 : w3.cell? ⟨gb341, 4, none⟩ = some (.int .i64 a0_4) := (blk_cell BK341.out 4).trans rfl
            have hfz11_0 := blk_frozen BK341.out 0
            have hfz11_1 := blk_frozen BK341.out 1
            have hfz11_2 := blk_frozen BK341.out 2
            have hfz11_3 := blk_frozen BK341.out 3
            have hfz11_4 := blk_frozen BK341.out 4
            go_wp2
            go_meet
            case rel => exact ⟨_, (true), (by first | rfl | (simp; done) | (simp [*]; done)), H', ⟨by first | omega | exact Nat.le_refl _⟩, ⟨by (with_reducible repeat (first | refine blk_drewN ?_ _ | refine blk_drew ?_ | refine blk_alloc ?_ _)); exact BK341.out⟩, ⟨by repeat (first | (with_reducible first | exact HB.out | apply below_alloc | apply pw_below_drewN | apply below_drew1 | refine below_set ?_ GE341.out) | exact HB.out)⟩⟩
          · rw [if_neg c10] at H
            have c10b0 : decide (a0_2 < 1) = false := decide_eq_false c10
            clear c10
            by_cases c12 : a0_2 > (l0_1.length : Int)
            · rw [if_pos c12] at H
              have c12b0 : decide ((l0_1.length : Int) < a0_2) = true := decide_eq_true c12
              clear c12
              have H' := Aside0.mk H
              clear H
              have hcz13_0 : w3.cell? ⟨gb341, 0, none⟩ = some (.int .i64 a0_0) := (blk_cell BK341.out 0).trans rfl
              have hcz13_1 : w3.cell? ⟨gb341, 1, none⟩ = some (.slice A0_1 l0_1.length c0_1) := (blk_cell BK341.out 1).trans rfl
              have hcz13_2 : w3.cell? ⟨gb341, 2, none⟩ = some (.int .i64 a0_2) := (blk_cell BK341.out 2).trans rfl
              have hcz13_3 : w3.cell? ⟨gb341, 3, none⟩ = some (.int .i64 a0_3) := (blk_cell BK341.out 3).trans rfl
              have hcz13_4 : w3.cell? ⟨gb341, 4, none⟩ = some (.int .i64 a0_4) := (blk_cell BK341.out 4).trans rfl
              have hfz13_0 := blk_frozen BK341.out 0
              have hfz13_1 := blk_frozen BK341.out 1
              have hfz13_2 := blk_frozen BK341.out 2
              have hfz13_3 := blk_frozen BK341.out 3
              have hfz13_4 := blk_frozen BK341.out 4
              go_wp2
              go_meet
              case rel => exact ⟨_, (true), (by first | rfl | (simp; done) | (simp [*]; done)), H', ⟨by first | omega | exact Nat.le_refl _⟩, ⟨by (with_reducible repeat (first | refine blk_drewN ?_ _ | refine blk_drew ?_ | refine blk_alloc ?_ _)); exact BK341.out⟩, ⟨by repeat (first | (with_reducible first | exact HB.out | apply below_alloc | apply pw_below_drewN | apply below_drew1 | refine below_set ?_ GE341.out) | exact HB.out)⟩⟩
            · rw [if_neg c12] at H
              have c12b0 : decide ((l0_1.length : Int) < a0_2) = false := decide_eq_false c12
              clear c12
              by_cases c14 : a0_3 < 0
              · rw [if_pos c14] at H
                have c14b0 : decide (a0_3 < 0) = true := decide_eq_true c14
                clear c14
                have H' := Aside0.mk H
                clear H
                have hcz15_0 : w3.cell? ⟨gb341, 0, none⟩ = some (.int .i64 a0_0) := (blk_cell BK341.out 0).trans rfl
                have hcz15_1 : w3.cell? ⟨gb341, 1, none⟩ = some (.slice A0_1 l0_1.length c0_1) := (blk_cell BK341.out 1).trans rfl
                have hcz15_2 : w3.cell? ⟨gb341, 2, none⟩ = some (.int .i64 a0_2) := (blk_cell BK341.out 2).trans rfl
                have hcz15_3 : w3.cell? ⟨gb341, 3, none⟩ = some (.int .i64 a0_3) := (blk_cell BK341.out 3).trans rfl
                have hcz15_4 : w3.cell? ⟨gb341, 4, none⟩ = some (.int .i64 a0_4) := (blk_cell BK341.out 4).trans rfl
                have hfz15_0 := blk_frozen BK341.out 0
                have hfz15_1 := blk_frozen BK341.out 1
                have hfz15_2 := blk_frozen BK341.out 2
                have hfz15_3 := blk_frozen BK341.out 3
                have hfz15_4 := blk_frozen BK341.out 4
                go_wp2
                go_meet
                case rel => exact ⟨_, (true), (by first | rfl | (simp; done) | (simp [*]; done)), H', ⟨by first | omega | exact Nat.le_refl _⟩, ⟨by (with_reducible repeat (first | refine blk_drewN ?_ _ | refine blk_drew ?_ | refine blk_alloc ?_ _)); exact BK341.out⟩, ⟨by repeat (first | (with_reducible first | exact HB.out | apply below_alloc | apply pw_below_drewN | apply below_drew1 | refine below_set ?_ GE341.out) | exact HB.out)⟩⟩
              · rw [if_neg c14] at H
                have c14b0 : decide (a0_3 < 0) = false := decide_eq_false c14
                clear c14
                by_cases c16 : a0_3 ≥ a0_4
                · rw [if_pos c16] at H
                  have c16b0 : decide (a0_4 ≤ a0_3) = true := decide_eq_true c16
                  clear c16
                  have H' := Aside0.mk H
                  clear H
                  have hcz17_0 : w3.cell? ⟨gb341, 0, none⟩ = some (.int .i64 a0_0) := (blk_cell BK341.out 0).trans rfl
                  have hcz17_1 : w3.cell? ⟨gb341, 1, none⟩ = some (.slice A0_1 l0_1.length c0_1) := (blk_cell BK341.out 1).trans rfl
                  have hcz17_2 : w3.cell? ⟨gb341, 2, none⟩ = some (.int .i64 a0_2) := (blk_cell BK341.out 2).trans rfl
                  have hcz17_3 : w3.cell? ⟨gb341, 3, none⟩ = some (.int .i64 a0_3) := (blk_cell BK341.out 3).trans rfl
                  have hcz17_4 : w3.cell? ⟨gb341, 4, none⟩ = some (.int .i64 a0_4) := (blk_cell BK341.out 4).trans rfl
                  have hfz17_0 := blk_frozen BK341.out 0
                  have hfz17_1 := blk_frozen BK341.out 1
                  have hfz17_2 := blk_frozen BK341.out 2
                  have hfz17_3 := blk_frozen BK341.out 3
                  have hfz17_4 := blk_frozen BK341.out 4
                  go_wp2
                  go_meet
                  case rel => exact ⟨_, (true), (by first | rfl | (simp; done) | (simp [*]; done)), H', ⟨by first | omega | exact Nat.le_refl _⟩, ⟨by (with_reducible repeat (first | refine blk_drewN ?_ _ | refine blk_drew ?_ | refine blk_alloc ?_ _)); exact BK341.out⟩, ⟨by repeat (first | (with_reducible first | exact HB.out | apply below_alloc | apply pw_below_drewN | apply below_drew1 | refine below_set ?_ GE341.out) | exact HB.out)⟩⟩
                · rw [if_neg c16] at H
                  have c16b0 : decide (a0_4 ≤ a0_3) = false := decide_eq_false c16
                  clear c16
                  have H' := Aside0.mk H
                  clear H
                  have hcz18_0 : w3.cell? ⟨gb341, 0, none⟩ = some (.int .i64 a0_0) := (blk_cell BK341.out 0).trans rfl
                  have hcz18_1 : w3.cell? ⟨gb341, 1, none⟩ = some (.slice A0_1 l0_1.length c0_1) := (blk_cell BK341.out 1).trans rfl
                  have hcz18_2 : w3.cell? ⟨gb341, 2, none⟩ = some (.int .i64 a0_2) := (blk_cell BK341.out 2).trans rfl
                  have hcz18_3 : w3.cell? ⟨gb341, 3, none⟩ = some (.int .i64 a0_3) := (blk_cell BK341.out 3).trans rfl
                  have hcz18_4 : w3.cell? ⟨gb341, 4, none⟩ = some (.int .i64 a0_4) := (blk_cell BK341.out 4).trans rfl
                  have hfz18_0 := blk_frozen BK341.out 0
                  have hfz18_1 := blk_frozen BK341.out 1
                  have hfz18_2 := blk_frozen BK341.out 2
                  have hfz18_3 := blk_frozen BK341.out 3
                  have hfz18_4 := blk_frozen BK341.out 4
                  go_wp2
                  go_meet
                  case rel => exact ⟨_, (decide (a0_4 > 60)), (by first | rfl | (simp; done) | (simp [*]; done)), H', ⟨by first | omega | exact Nat.le_refl _⟩, ⟨by (with_reducible repeat (first | refine blk_drewN ?_ _ | refine blk_drew ?_ | refine blk_alloc ?_ _)); exact BK341.out⟩, ⟨by repeat (first | (with_reducible first | exact HB.out | apply below_alloc | apply pw_below_drewN | apply below_drew1 | refine below_set ?_ GE341.out) | exact HB.out)⟩⟩
    · rw [if_neg c5] at H
      have c5b0 : (a0_0 == 1) = false := beq_eq_false_iff_ne.mpr c5
      have c5b1 : (a0_0 != 1) = true := bne_iff_ne.mpr c5
      (first | rw [c5b0] | (simp only [i64_w, i32_w]; rw [c5b0]) | skip)
      by_cases c19 : a0_0 = 2
      · rw [if_pos c19] at H
        have c19b0 : (a0_0 == 2) = true := beq_iff_eq.mpr c19
        have c19b1 : (a0_0 != 2) = false := bne_eq_false_iff_eq.mpr c19
        clear c19
        by_cases c20 : (l0_1.length : Int) < 1
        · rw [if_pos c20] at H
          have c20b0 : decide ((l0_1.length : Int) < 1) = true := decide_eq_true c20
          have c20b1 : decide (l0_1.length < 1) = true := decide_eq_true (by omega)
          clear c20
          have H' := Aside0.mk H
          clear H
          have hcz21_0 : w3.cell? ⟨gb341, 0, none⟩ = some (.int .i64 a0_0) := (blk_cell BK341.out 0).trans rfl
          have hcz21_1 : w3.cell? ⟨gb341, 1, none⟩ = some (.slice A0_1 l0_1.length c0_1) := (blk_cell BK341.out 1).trans rfl
          have hcz21_2 : w3.cell? ⟨gb341, 2, none⟩ = some (.int .i64 a0_2) := (blk_cell BK341.out 2).trans rfl
          have hcz21_3 : w3.cell? ⟨gb341, 3, none⟩ = some (.int .i64 a0_3) := (blk_cell BK341.out 3).trans rfl
          have hcz21_4 : w3.cell? ⟨gb341, 4, none⟩ = some (.int .i64 a0_4) := (blk_cell BK341.out 4).trans rfl
          have hfz21_0 := blk_frozen BK341.out 0
          have hfz21_1 := blk_frozen BK341.out 1
          have hfz21_2 := blk_frozen BK341.out 2
          have hfz21_3 := blk_frozen BK341.out 3
          have hfz21_4 := blk_frozen BK341.out 4
          go_wp2
          go_meet
          case rel => exact ⟨_, (true), (by first | rfl | (simp; done) | (simp [*]; done)), H', ⟨by first | omega | exact Nat.le_refl _⟩, ⟨by (with_reducible repeat (first | refine blk_drewN ?_ _ | refine blk_drew ?_ | refine blk_alloc ?_ _)); exact BK341.out⟩, ⟨by repeat (first | (with_reducible first | exact HB.out | apply below_alloc | apply pw_below_drewN | apply below_drew1 | refine below_set ?_ GE341.out) | exact HB.out)⟩⟩
        · rw [if_neg c20] at H
          have c20b0 : decide ((l0_1.length : Int) < 1) = false := decide_eq_false c20
          have c20b1 : decide (l0_1.length < 1) = false := decide_eq_false (by omega)
          clear c20
          by_cases c22 : (l0_1.length : Int) > 60
          · rw [if_pos c22] at H
            have c22b0 : decide (60 < (l0_1.length : Int)) = true := decide_eq_true c22
            have c22b1 : decide (60 < l0_1.length) = true := decide_eq_true (by omega)
            clear c22
            have H' := Aside0.mk H
            clear H
            have hcz23_0 : w3.cell? ⟨gb341, 0, none⟩ = some (.int .i64 a0_0) := (blk_cell BK341.out 0).trans rfl
            have hcz23_1 : w3.cell? ⟨gb341, 1, none⟩ = some (.slice A0_1 l0_1.length c0_1) := (blk_cell BK341.out 1).trans rfl
            have hcz23_2 : w3.cell? ⟨gb341, 2, none⟩ = some (.int .i64 a0_2) := (blk_cell BK341.out 2).trans rfl
            have hcz23_3 : w3.cell? ⟨gb341, 3, none⟩ = some (.int .i64 a0_3) := (blk_cell BK341.out 3).trans rfl
            have hcz23_4 : w3.cell? ⟨gb341, 4, none⟩ = some (.int .i64 a0_4) := (blk_cell BK341.out 4).trans rfl
            have hfz23_0 := blk_frozen BK341.out 0
            have hfz23_1 := blk_frozen BK341.out 1
            have hfz23_2 := blk_frozen BK341.out 2
            have hfz23_3 := blk_frozen BK341.out 3
            have hfz23_4 := blk_frozen BK341.out 4
            go_wp2
            go_meet
            case rel => exact ⟨_, (true), (by first | rfl | (simp; done) | (simp [*]; done)), H', ⟨by first | omega | exact Nat.le_refl _⟩, ⟨by (with_reducible repeat (first | refine blk_drewN ?_ _ | refine blk_drew ?_ | refine blk_alloc ?_ _)); exact BK341.out⟩, ⟨by repeat (first | (with_reducible first | exact HB.out | apply below_alloc | apply pw_below_drewN | apply below_drew1 | refine below_set ?_ GE341.out) | exact HB.out)⟩⟩
          · rw [if_neg c22] at H
            have c22b0 : decide (60 < (l0_1.length : Int)) = false := decide_eq_false c22
            have c22b1 : decide (60 < l0_1.length) = false := decide_eq_false (by omega)
            clear c22
            by_cases c24 : a0_2 < 1
            · rw [if_pos c24] at H
              have c24b0 : decide (a0_2 < 1) = true := decide_eq_true c24
              clear c24
              have H' := Aside0.mk H
              clear H
              have hcz25_0 : w3.cell? ⟨gb341, 0, none⟩ = some (.int .i64 a0_0) := (blk_cell BK341.out 0).trans rfl
              have hcz25_1 : w3.cell? ⟨gb341, 1, none⟩ = some (.slice A0_1 l0_1.length c0_1) := (blk_cell BK341.out 1).trans rfl
              have hcz25_2 : w3.cell? ⟨gb341, 2, none⟩ = some (.int .i64 a0_2) := (blk_cell BK341.out 2).trans rfl
              have hcz25_3 : w3.cell? ⟨gb341, 3, none⟩ = some (.int .i64 a0_3) := (blk_cell BK341.out 3).trans rfl
              have hcz25_4 : w3.cell? ⟨gb341, 4, none⟩ = some (.int .i64 a0_4) := (blk_cell BK341.out 4).trans rfl
              have hfz25_0 := blk_frozen BK341.out 0
              have hfz25_1 := blk_frozen BK341.out 1
              have hfz25_2 := blk_frozen BK341.out 2
              have hfz25_3 := blk_frozen BK341.out 3
              have hfz25_4 := blk_frozen BK341.out 4
              go_wp2
              go_meet
              case rel => exact ⟨_, (true), (by first | rfl | (simp; done) | (simp [*]; done)), H', ⟨by first | omega | exact Nat.le_refl _⟩, ⟨by (with_reducible repeat (first | refine blk_drewN ?_ _ | refine blk_drew ?_ | refine blk_alloc ?_ _)); exact BK341.out⟩, ⟨by repeat (first | (with_reducible first | exact HB.out | apply below_alloc | apply pw_below_drewN | apply below_drew1 | refine below_set ?_ GE341.out) | exact HB.out)⟩⟩
            · rw [if_neg c24] at H
              have c24b0 : decide (a0_2 < 1) = false := decide_eq_false c24
              clear c24
              by_cases c26 : a0_2 > (l0_1.length : Int)
              · rw [if_pos c26] at H
                have c26b0 : decide ((l0_1.length : Int) < a0_2) = true := decide_eq_true c26
                clear c26
                have H' := Aside0.mk H
                clear H
                have hcz27_0 : w3.cell? ⟨gb341, 0, none⟩ = some (.int .i64 a0_0) := (blk_cell BK341.out 0).trans rfl
                have hcz27_1 : w3.cell? ⟨gb341, 1, none⟩ = some (.slice A0_1 l0_1.length c0_1) := (blk_cell BK341.out 1).trans rfl
                have hcz27_2 : w3.cell? ⟨gb341, 2, none⟩ = some (.int .i64 a0_2) := (blk_cell BK341.out 2).trans rfl
                have hcz27_3 : w3.cell? ⟨gb341, 3, none⟩ = some (.int .i64 a0_3) := (blk_cell BK341.out 3).trans rfl
                have hcz27_4 : w3.cell? ⟨gb341, 4, none⟩ = some (.int .i64 a0_4) := (blk_cell BK341.out 4).trans rfl
                have hfz27_0 := blk_frozen BK341.out 0
                have hfz27_1 := blk_frozen BK341.out 1
                have hfz27_2 := blk_frozen BK341.out 2
                have hfz27_3 := blk_frozen BK341.out 3
                have hfz27_4 := blk_frozen BK341.out 4
                go_wp2
                go_meet
                case rel => exact ⟨_, (true), (by first | rfl | (simp; done) | (simp [*]; done)), H', ⟨by first | omega | exact Nat.le_refl _⟩, ⟨by (with_reducible repeat (first | refine blk_drewN ?_ _ | refine blk_drew ?_ | refine blk_alloc ?_ _)); exact BK341.out⟩, ⟨by repeat (first | (with_reducible first | exact HB.out | apply below_alloc | apply pw_below_drewN | apply below_drew1 | refine below_set ?_ GE341.out) | exact HB.out)⟩⟩
              · rw [if_neg c26] at H
                have c26b0 : decide ((l0_1.length : Int) < a0_2) = false := decide_eq_false c26
                clear c26
                by_cases c28 : a0_3 < 0
                · rw [if_pos c28] at H
                  have c28b0 : decide (a0_3 < 0) = true := decide_eq_true c28
                  clear c28
                  have H' := Aside0.mk H
                  clear H
                  have hcz29_0 : w3.cell? ⟨gb341, 0, none⟩ = some (.int .i64 a0_0) := (blk_cell BK341.out 0).trans rfl
                  have hcz29_1 : w3.cell? ⟨gb341, 1, none⟩ = some (.slice A0_1 l0_1.length c0_1) := (blk_cell BK341.out 1).trans rfl
                  have hcz29_2 : w3.cell? ⟨gb341, 2, none⟩ = some (.int .i64 a0_2) := (blk_cell BK341.out 2).trans rfl
                  have hcz29_3 : w3.cell? ⟨gb341, 3, none⟩ = some (.int .i64 a0_3) := (blk_cell BK341.out 3).trans rfl
                  have hcz29_4 : w3.cell? ⟨gb341, 4, none⟩ = some (.int .i64 a0_4) := (blk_cell BK341.out 4).trans rfl
                  have hfz29_0 := blk_frozen BK341.out 0
                  have hfz29_1 := blk_frozen BK341.out 1
                  have hfz29_2 := blk_frozen BK341.out 2
                  have hfz29_3 := blk_frozen BK341.out 3
                  have hfz29_4 := blk_frozen BK341.out 4
                  go_wp2
                  go_meet
                  case rel => exact ⟨_, (true), (by first | rfl | (simp; done) | (simp [*]; done)), H', ⟨by first | omega | exact Nat.le_refl _⟩, ⟨by (with_reducible repeat (first | refine blk_drewN ?_ _ | refine blk_drew ?_ | refine blk_alloc ?_ _)); exact BK341.out⟩, ⟨by repeat (first | (with_reducible first | exact HB.out | apply below_alloc | apply pw_below_drewN | apply below_drew1 | refine below_set ?_ GE341.out) | exact HB.out)⟩⟩
                · rw [if_neg c28] at H
                  have c28b0 : decide (a0_3 < 0) = false := decide_eq_false c28
                  clear c28
                  by_cases c30 : a0_3 ≥ a0_4
                  · rw [if_pos c30] at H
                    have c30b0 : decide (a0_4 ≤ a0_3) = true := decide_eq_true c30
                    clear c30
                    have H' := Aside0.mk H
                    clear H
                    have hcz31_0 : w3.cell? ⟨gb341, 0, none⟩ = some (.int .i64 a0_0) := (blk_cell BK341.out 0).trans rfl
                    have hcz31_1 : w3.cell? ⟨gb341, 1, none⟩ = some (.slice A0_1 l0_1.length c0_1) := (blk_cell BK341.out 1).trans rfl
                    have hcz31_2 : w3.cell? ⟨gb341, 2, none⟩ = some (.int .i64 a0_2) := (blk_cell BK341.out 2).trans rfl
                    have hcz31_3 : w3.cell? ⟨gb341, 3, none⟩ = some (.int .i64 a0_3) := (blk_cell BK341.out 3).trans rfl
                    have hcz31_4 : w3.cell? ⟨gb341, 4, none⟩ = some (.int .i64 a0_4) := (blk_cell BK341.out 4).trans rfl
                    have hfz31_0 := blk_frozen BK341.out 0
                    have hfz31_1 := blk_frozen BK341.out 1
                    have hfz31_2 := blk_frozen BK341.out 2
                    have hfz31_3 := blk_frozen BK341.out 3
                    have hfz31_4 := blk_frozen BK341.out 4
                    go_wp2
                    go_meet
                    case rel => exact ⟨_, (true), (by first | rfl | (simp; done) | (simp [*]; done)), H', ⟨by first | omega | exact Nat.le_refl _⟩, ⟨by (with_reducible repeat (first | refine blk_drewN ?_ _ | refine blk_drew ?_ | refine blk_alloc ?_ _)); exact BK341.out⟩, ⟨by repeat (first | (with_reducible first | exact HB.out | apply below_alloc | apply pw_below_drewN | apply below_drew1 | refine below_set ?_ GE341.out) | exact HB.out)⟩⟩
                  · rw [if_neg c30] at H
                    have c30b0 : decide (a0_4 ≤ a0_3) = false := decide_eq_false c30
                    clear c30
                    have H' := Aside0.mk H
                    clear H
                    have hcz32_0 : w3.cell? ⟨gb341, 0, none⟩ = some (.int .i64 a0_0) := (blk_cell BK341.out 0).trans rfl
                    have hcz32_1 : w3.cell? ⟨gb341, 1, none⟩ = some (.slice A0_1 l0_1.length c0_1) := (blk_cell BK341.out 1).trans rfl
                    have hcz32_2 : w3.cell? ⟨gb341, 2, none⟩ = some (.int .i64 a0_2) := (blk_cell BK341.out 2).trans rfl
                    have hcz32_3 : w3.cell? ⟨gb341, 3, none⟩ = some (.int .i64 a0_3) := (blk_cell BK341.out 3).trans rfl
                    have hcz32_4 : w3.cell? ⟨gb341, 4, none⟩ = some (.int .i64 a0_4) := (blk_cell BK341.out 4).trans rfl
                    have hfz32_0 := blk_frozen BK341.out 0
                    have hfz32_1 := blk_frozen BK341.out 1
                    have hfz32_2 := blk_frozen BK341.out 2
                    have hfz32_3 := blk_frozen BK341.out 3
                    have hfz32_4 := blk_frozen BK341.out 4
                    go_wp2
                    go_meet
                    case rel => exact ⟨_, (decide (a0_4 > 60)), (by first | rfl | (simp; done) | (simp [*]; done)), H', ⟨by first | omega | exact Nat.le_refl _⟩, ⟨by (with_reducible repeat (first | refine blk_drewN ?_ _ | refine blk_drew ?_ | refine blk_alloc ?_ _)); exact BK341.out⟩, ⟨by repeat (first | (with_reducible first | exact HB.out | apply below_alloc | apply pw_below_drewN | apply below_drew1 | refine below_set ?_ GE341.out) | exact HB.out)⟩⟩
      · rw [if_neg c19] at H
        have c19b0 : (a0_0 == 2) = false := beq_eq_false_iff_ne.mpr c19
        have c19b1 : (a0_0 != 2) = true := bne_iff_ne.mpr c19
        have H' := Aside0.mk H
        clear H
        have hcz33_0 : w3.cell? ⟨gb341, 0, none⟩ = some (.int .i64 a0_0) := (blk_cell BK341.out 0).trans rfl
        have hcz33_1 : w3.cell? ⟨gb341, 1, none⟩ = some (.slice A0_1 l0_1.length c0_1) := (blk_cell BK341.out 1).trans rfl
        have hcz33_2 : w3.cell? ⟨gb341, 2, none⟩ = some (.int .i64 a0_2) := (blk_cell BK341.out 2).trans rfl
        have hcz33_3 : w3.cell? ⟨gb341, 3, none⟩ = some (.int .i64 a0_3) := (blk_cell BK341.out 3).trans rfl
        have hcz33_4 : w3.cell? ⟨gb341, 4, none⟩ = some (.int .i64 a0_4) := (blk_cell BK341.out 4).trans rfl
        have hfz33_0 := blk_frozen BK341.out 0
        have hfz33_1 := blk_frozen BK341.out 1
        have hfz33_2 := blk_frozen BK341.out 2
        have hfz33_3 := blk_frozen BK341.out 3
        have hfz33_4 := blk_frozen BK341.out 4
        go_wp2
        go_meet
        case rel => exact ⟨_, (true), (by first | rfl | (simp; done) | (simp [*]; done)), H', ⟨by first | omega | exact Nat.le_refl _⟩, ⟨by (with_reducible repeat (first | refine blk_drewN ?_ _ | refine blk_drew ?_ | refine blk_alloc ?_ _)); exact BK341.out⟩, ⟨by repeat (first | (with_reducible first | exact HB.out | apply below_alloc | apply pw_below_drewN | apply below_drew1 | refine below_set ?_ GE341.out) | exact HB.out)⟩⟩
  case rest =>
    clear HC2
    try clear c1
    try clear c2
    try clear p2
    try clear c3
    try clear c5
    try clear c5b0
    try clear c5b1
    try clear c6
    try clear c6b0
    try clear c6b1
    try clear c8
    try clear c8b0
    try clear c8b1
    try clear c10
    try clear c10b0
    try clear c12
    try clear c12b0
    try clear c14
    try clear c14b0
    try clear c16
    try clear c16b0
    try clear c19
    try clear c19b0
    try clear c19b1
    try clear c20
    try clear c20b0
    try clear c20b1
    try clear c22
    try clear c22b0
    try clear c22b1
    try clear c24
    try clear c24b0
    try clear c26
    try clear c26b0
    try clear c28
    try clear c28b0
    try clear c30
    try clear c30b0
    try clear hcz11_0
    try clear hcz11_1
    try clear hcz11_2
    try clear hcz11_3
    try clear hcz11_4
    try clear hcz13_0
    try clear hcz13_1
    try clear hcz13_2
    try clear hcz13_3
    try clear hcz13_4
    try clear hcz15_0
    try clear hcz15_1
    try clear hcz15_2
    try clear hcz15_3
    try clear hcz15_4
    try clear hcz17_0
    try clear hcz17_1
    try clear hcz17_2
    try clear hcz17_3
    try clear hcz17_4
    try clear hcz18_0
    try clear hcz18_1
    try clear hcz18_2
    try clear hcz18_3
    try clear hcz18_4
    try clear hcz21_0
    try clear hcz21_1
    try clear hcz21_2
    try clear hcz21_3
    try clear hcz21_4
    try clear hcz23_0
    try clear hcz23_1
    try clear hcz23_2
    try clear hcz23_3
    try clear hcz23_4
    try clear hcz25_0
    try clear hcz25_1
    try clear hcz25_2
    try clear hcz25_3
    try clear hcz25_4
    try clear hcz27_0
    try clear hcz27_1
    try clear hcz27_2
    try clear hcz27_3
    try clear hcz27_4
    try clear hcz29_0
    try clear hcz29_1
    try clear hcz29_2
    try clear hcz29_3
    try clear hcz29_4
    try clear hcz31_0
    try clear hcz31_1
    try clear hcz31_2
    try clear hcz31_3
    try clear hcz31_4
    try clear hcz32_0
    try clear hcz32_1
    try clear hcz32_2
    try clear hcz32_3
    try clear hcz32_4
    try clear hcz33_0
    try clear hcz33_1
    try clear hcz33_2
    try clear hcz33_3
    try clear hcz33_4
    try clear hcz4_0
    try clear hcz4_1
    try clear hcz4_2
    try clear hcz4_3
    try clear hcz4_4
    try clear hcz7_0
    try clear hcz7_1
    try clear hcz7_2
    try clear hcz7_3
    try clear hcz7_4
    try clear hcz9_0
    try clear hcz9_1
    try clear hcz9_2
    try clear hcz9_3
    try clear hcz9_4
    try clear hfz11_0
    try clear hfz11_1
    try clear hfz11_2
    try clear hfz11_3
    try clear hfz11_4
    try clear hfz13_0
    try clear hfz13_1
    try clear hfz13_2
    try clear hfz13_3
    try clear hfz13_4
    try clear hfz15_0
    try clear hfz15_1
    try clear hfz15_2
    try clear hfz15_3
    try clear hfz15_4
    try clear hfz17_0
    try clear hfz17_1
    try clear hfz17_2
    try clear hfz17_3
    try clear hfz17_4
    try clear hfz18_0
    try clear hfz18_1
    try clear hfz18_2
    try clear hfz18_3
    try clear hfz18_4
    try clear hfz21_0
    try clear hfz21_1
    try clear hfz21_2
    try clear hfz21_3
    try clear hfz21_4
    try clear hfz23_0
    try clear hfz23_1
    try clear hfz23_2
    try clear hfz23_3
    try clear hfz23_4
    try clear hfz25_0
    try clear hfz25_1
    try clear hfz25_2
    try clear hfz25_3
    try clear hfz25_4
    try clear hfz27_0
    try clear hfz27_1
    try clear hfz27_2
    try clear hfz27_3
    try clear hfz27_4
    try clear hfz29_0
    try clear hfz29_1
    try clear hfz29_2
    try clear hfz29_3
    try clear hfz29_4
    try clear hfz31_0
    try clear hfz31_1
    try clear hfz31_2
    try clear hfz31_3
    try clear hfz31_4
    try clear hfz32_0
    try clear hfz32_1
    try clear hfz32_2
    try clear hfz32_3
    try clear hfz32_4
    try clear hfz33_0
    try clear hfz33_1
    try clear hfz33_2
    try clear hfz33_3
    try clear hfz33_4
    try clear hfz4_0
    try clear hfz4_1
    try clear hfz4_2
    try clear hfz4_3
    try clear hfz4_4
    try clear hfz7_0
    try clear hfz7_1
    try clear hfz7_2
    try clear hfz7_3
    try clear hfz7_4
    try clear hfz9_0
    try clear hfz9_1
    try clear hfz9_2
    try clear hfz9_3
    try clear hfz9_4
    obtain ⟨kq, x51_1, rfl, HA, HJ1, BK341, HB⟩ := hcut
    cases kq with
    | zero => exact absurd HA.out (by simp [pandectref39_Proper.j0])
    | succ kj1 =>
      have H := HA.out
      clear HA
      simp only [pandectref39_Proper.j0] at H
      by_cases c34 : x51_1 = true
      · subst c34
        have H1 : (some false) = some r := by rw [if_pos rfl] at H; exact H
        clear H
        have H := H1
        clear H1
        obtain rfl := Option.some.inj H
        go_wp2
        go_ret
        exact ⟨by first | rfl | (simp [errW_none, errW_some] <;> rfl) | (simp [*, errW_none, errW_some] <;> rfl), by repeat (first | (with_reducible first | exact HB.out | apply below_alloc | apply pw_below_drewN | apply below_drew1 | refine below_set ?_ GE341.out) | exact HB.out)⟩
      · replace c34 := Bool.eq_false_iff.mpr c34
        subst c34
        have H1 : (pandectref39_Proper.l0 kj1 (l0_1.length : Int) 0 a0_0 l0_1 a0_2 a0_3 a0_4) = some r := by rw [if_neg (show ¬ (false = true) by decide)] at H; exact H
        clear H
        have H := H1
        clear H1
        have H' := Aside0.mk H
        clear H
        go_wp2
        go_loopg [4] kj1 (fun kq v4 w' => ∃ (x4_2 : Int), v4 = .int .i64 x4_2 ∧ Aside0 (pandectref39_Proper.l0 kq (l0_1.length : Int) x4_2 a0_0 l0_1 a0_2 a0_3 a0_4 = some r) ∧ Aside0 (kq ≤ kj1) ∧ Aside0 (w'.heap[gb341]? = some (.cells #[.int .i64 a0_0, (.slice A0_1 l0_1.length c0_1), .int .i64 a0_2, .int .i64 a0_3, .int .i64 a0_4] 24 (0, 0))) ∧ Aside0 (Below w.heap.size w w'))
        case atStart => exact ⟨(0), (by first | rfl | (simp; done) | (simp [*]; done)), H', ⟨Nat.le_refl _⟩, ⟨by (with_reducible repeat (first | refine blk_drewN ?_ _ | refine blk_drew ?_ | refine blk_alloc ?_ _)); exact BK341.out⟩, ⟨by repeat (first | (with_reducible first | exact HB.out | apply below_alloc | apply pw_below_drewN | apply below_drew1 | refine below_set ?_ GE341.out) | exact HB.out)⟩⟩
        case round =>
          clear H'
          try clear c1
          try clear c2
          try clear p2
          try clear c3
          try clear c5
          try clear c5b0
          try clear c5b1
          try clear c6
          try clear c6b0
          try clear c6b1
          try clear c8
          try clear c8b0
          try clear c8b1
          try clear c10
          try clear c10b0
          try clear c12
          try clear c12b0
          try clear c14
          try clear c14b0
          try clear c16
          try clear c16b0
          try clear c19
          try clear c19b0
          try clear c19b1
          try clear c20
          try clear c20b0
          try clear c20b1
          try clear c22
          try clear c22b0
          try clear c22b1
          try clear c24
          try clear c24b0
          try clear c26
          try clear c26b0
          try clear c28
          try clear c28b0
          try clear c30
          try clear c30b0
          try clear c34
          try clear hcz11_0
          try clear hcz11_1
          try clear hcz11_2
          try clear hcz11_3
          try clear hcz11_4
          try clear hcz13_0
          try clear hcz13_1
          try clear hcz13_2
          try clear hcz13_3
          try clear hcz13_4
          try clear hcz15_0
          try clear hcz15_1
          try clear hcz15_2
          try clear hcz15_3
          try clear hcz15_4
          try clear hcz17_0
          try clear hcz17_1
          try clear hcz17_2
          try clear hcz17_3
          try clear hcz17_4
          try clear hcz18_0
          try clear hcz18_1
          try clear hcz18_2
          try clear hcz18_3
          try clear hcz18_4
          try clear hcz21_0
          try clear hcz21_1
          try clear hcz21_2
          try clear hcz21_3
          try clear hcz21_4
          try clear hcz23_0
          try clear hcz23_1
          try clear hcz23_2
          try clear hcz23_3
          try clear hcz23_4
          try clear hcz25_0
          try clear hcz25_1
          try clear hcz25_2
          try clear hcz25_3
          try clear hcz25_4
          try clear hcz27_0
          try clear hcz27_1
          try clear hcz27_2
          try clear hcz27_3
          try clear hcz27_4
          try clear hcz29_0
          try clear hcz29_1
          try clear hcz29_2
          try clear hcz29_3
          try clear hcz29_4
          try clear hcz31_0
          try clear hcz31_1
          try clear hcz31_2
          try clear hcz31_3
          try clear hcz31_4
          try clear hcz32_0
          try clear hcz32_1
          try clear hcz32_2
          try clear hcz32_3
          try clear hcz32_4
          try clear hcz33_0
          try clear hcz33_1
          try clear hcz33_2
          try clear hcz33_3
          try clear hcz33_4
          try clear hcz4_0
          try clear hcz4_1
          try clear hcz4_2
          try clear hcz4_3
          try clear hcz4_4
          try clear hcz7_0
          try clear hcz7_1
          try clear hcz7_2
          try clear hcz7_3
          try clear hcz7_4
          try clear hcz9_0
          try clear hcz9_1
          try clear hcz9_2
          try clear hcz9_3
          try clear hcz9_4
          try clear hfz11_0
          try clear hfz11_1
          try clear hfz11_2
          try clear hfz11_3
          try clear hfz11_4
          try clear hfz13_0
          try clear hfz13_1
          try clear hfz13_2
          try clear hfz13_3
          try clear hfz13_4
          try clear hfz15_0
          try clear hfz15_1
          try clear hfz15_2
          try clear hfz15_3
          try clear hfz15_4
          try clear hfz17_0
          try clear hfz17_1
          try clear hfz17_2
          try clear hfz17_3
          try clear hfz17_4
          try clear hfz18_0
          try clear hfz18_1
          try clear hfz18_2
          try clear hfz18_3
          try clear hfz18_4
          try clear hfz21_0
          try clear hfz21_1
          try clear hfz21_2
          try clear hfz21_3
          try clear hfz21_4
          try clear hfz23_0
          try clear hfz23_1
          try clear hfz23_2
          try clear hfz23_3
          try clear hfz23_4
          try clear hfz25_0
          try clear hfz25_1
          try clear hfz25_2
          try clear hfz25_3
          try clear hfz25_4
          try clear hfz27_0
          try clear hfz27_1
          try clear hfz27_2
          try clear hfz27_3
          try clear hfz27_4
          try clear hfz29_0
          try clear hfz29_1
          try clear hfz29_2
          try clear hfz29_3
          try clear hfz29_4
          try clear hfz31_0
          try clear hfz31_1
          try clear hfz31_2
          try clear hfz31_3
          try clear hfz31_4
          try clear hfz32_0
          try clear hfz32_1
          try clear hfz32_2
          try clear hfz32_3
          try clear hfz32_4
          try clear hfz33_0
          try clear hfz33_1
          try clear hfz33_2
          try clear hfz33_3
          try clear hfz33_4
          try clear hfz4_0
          try clear hfz4_1
          try clear hfz4_2
          try clear hfz4_3
          try clear hfz4_4
          try clear hfz7_0
          try clear hfz7_1
          try clear hfz7_2
          try clear hfz7_3
          try clear hfz7_4
          try clear hfz9_0
          try clear hfz9_1
          try clear hfz9_2
          try clear hfz9_3
          try clear hfz9_4
          try clear p2
          obtain ⟨x4_2, rfl, HA, HK2, BK341, HB⟩ := hrel
          cases gk with
          | zero => exact absurd HA.out (by simp [pandectref39_Proper.l0])
          | succ k2 =>
            have H := HA.out
            clear HA
            simp only [pandectref39_Proper.l0] at H
            by_cases c35 : x4_2 < (l0_1.length : Int)
            · rw [if_pos c35] at H
              have c35b0 : decide (x4_2 < (l0_1.length : Int)) = true := decide_eq_true c35
              clear c35
              by_cases c36 : 0 ≤ x4_2
              · rw [if_pos c36] at H
                have c36b0 : decide (0 ≤ x4_2) = true := decide_eq_true c36
                clear c36
                by_cases c37 : x4_2 < (l0_1.length : Int)
                · rw [if_pos c37] at H
                  have c37b0 : decide (x4_2 < (l0_1.length : Int)) = true := decide_eq_true c37
                  clear c37
                  replace H := Option.bind_eq_some_iff.mp H
                  obtain ⟨t343, A380, H⟩ := H
                  replace H : (if t343 = true then (pandectref39_Proper.l0 k2 (l0_1.length : Int) (wrap64 (x4_2 + 1)) a0_0 l0_1 a0_2 a0_3 a0_4) else (some false)) = some r := H
                  have A38 := Aside0.mk A380
                  clear A380
                  by_cases c39 : t343 = true
                  · subst c39
                    have H1 : (pandectref39_Proper.l0 k2 (l0_1.length : Int) (wrap64 (x4_2 + 1)) a0_0 l0_1 a0_2 a0_3 a0_4) = some r := by rw [if_pos rfl] at H; exact H
                    clear H
                    have H := H1
                    clear H1
                    have H' := Aside0.mk H
                    clear H
                    have hcz40_0 : wr.cell? ⟨gb341, 0, none⟩ = some (.int .i64 a0_0) := (blk_cell BK341.out 0).trans rfl
                    have hcz40_1 : wr.cell? ⟨gb341, 1, none⟩ = some (.slice A0_1 l0_1.length c0_1) := (blk_cell BK341.out 1).trans rfl
                    have hcz40_2 : wr.cell? ⟨gb341, 2, none⟩ = some (.int .i64 a0_2) := (blk_cell BK341.out 2).trans rfl
                    have hcz40_3 : wr.cell? ⟨gb341, 3, none⟩ = some (.int .i64 a0_3) := (blk_cell BK341.out 3).trans rfl
                    have hcz40_4 : wr.cell? ⟨gb341, 4, none⟩ = some (.int .i64 a0_4) := (blk_cell BK341.out 4).trans rfl
                    have hfz40_0 := blk_frozen BK341.out 0
                    have hfz40_1 := blk_frozen BK341.out 1
                    have hfz40_2 := blk_frozen BK341.out 2
                    have hfz40_3 := blk_frozen BK341.out 3
                    have hfz40_4 := blk_frozen BK341.out 4
                    have p342 : 0 ≤ (x4_2 : Int) := of_decide_eq_true (by first | (with_reducible assumption) | assumption)
                    have q342 : x4_2 < (l0_1.length : Int) := of_decide_eq_true (by first | (with_reducible assumption) | assumption)
                    obtain ⟨ad342, e342, hx342_0⟩ := Kd.at_string HR0_1.out x4_2 p342 q342
                    cases e342
                    replace hx342_0 := (HB.out.cell (World.block_lt_of_cell? w _ hx342_0)).trans hx342_0
                    replace p342 := eq_true p342
                    replace q342 := eq_true q342
                    go_wp2_with (first | ((with_reducible refine gate_callee (f := 48) rfl ?_); refine goesL_ (some 62) rfl rfl Tryd.func48 (by kernel_rfl) rfl #[.string (rdOf ByteArray.empty l0_1 x4_2)] rfl (by (try simp only [List.map_toArray, List.map_cons, List.map_nil]); first | done | rfl | (simp only [List.length_drop, List.length_take]; rfl)) ?_; (with_reducible refine (pandectref01_Is.calls k2 (rdOf ByteArray.empty l0_1 x4_2) true _ A38.out).mono ?_); rintro e w' ⟨rfl, ⟨nd, rfl⟩⟩; refine ⟨_, rfl, ?_⟩))
                    go_roundg k2
                    case measure => have := HJ1.out; have := HK2.out; omega
                    case rel => exact ⟨(wrap64 (x4_2 + 1)), (by first | rfl | (simp; done) | (simp [*]; done)), H', ⟨by have := HJ1.out; have := HK2.out; omega⟩, ⟨by (with_reducible repeat (first | refine blk_drewN ?_ _ | refine blk_drew ?_ | refine blk_alloc ?_ _)); exact BK341.out⟩, ⟨by repeat (first | (with_reducible first | exact HB.out | apply below_alloc | apply pw_below_drewN | apply below_drew1 | refine below_set ?_ GE341.out) | exact HB.out)⟩⟩
                  · replace c39 := Bool.eq_false_iff.mpr c39
                    subst c39
                    have H1 : (some false) = some r := by rw [if_neg (show ¬ (false = true) by decide)] at H; exact H
                    clear H
                    have H := H1
                    clear H1
                    obtain rfl := Option.some.inj H
                    have hcz41_0 : wr.cell? ⟨gb341, 0, none⟩ = some (.int .i64 a0_0) := (blk_cell BK341.out 0).trans rfl
                    have hcz41_1 : wr.cell? ⟨gb341, 1, none⟩ = some (.slice A0_1 l0_1.length c0_1) := (blk_cell BK341.out 1).trans rfl
                    have hcz41_2 : wr.cell? ⟨gb341, 2, none⟩ = some (.int .i64 a0_2) := (blk_cell BK341.out 2).trans rfl
                    have hcz41_3 : wr.cell? ⟨gb341, 3, none⟩ = some (.int .i64 a0_3) := (blk_cell BK341.out 3).trans rfl
                    have hcz41_4 : wr.cell? ⟨gb341, 4, none⟩ = some (.int .i64 a0_4) := (blk_cell BK341.out 4).trans rfl
                    have hfz41_0 := blk_frozen BK341.out 0
                    have hfz41_1 := blk_frozen BK341.out 1
                    have hfz41_2 := blk_frozen BK341.out 2
                    have hfz41_3 := blk_frozen BK341.out 3
                    have hfz41_4 := blk_frozen BK341.out 4
                    have p342 : 0 ≤ (x4_2 : Int) := of_decide_eq_true (by first | (with_reducible assumption) | assumption)
                    have q342 : x4_2 < (l0_1.length : Int) := of_decide_eq_true (by first | (with_reducible assumption) | assumption)
                    obtain ⟨ad342, e342, hx342_0⟩ := Kd.at_string HR0_1.out x4_2 p342 q342
                    cases e342
                    replace hx342_0 := (HB.out.cell (World.block_lt_of_cell? w _ hx342_0)).trans hx342_0
                    replace p342 := eq_true p342
                    replace q342 := eq_true q342
                    go_wp2_with (first | ((with_reducible refine gate_callee (f := 48) rfl ?_); refine goesL_ (some 62) rfl rfl Tryd.func48 (by kernel_rfl) rfl #[.string (rdOf ByteArray.empty l0_1 x4_2)] rfl (by (try simp only [List.map_toArray, List.map_cons, List.map_nil]); first | done | rfl | (simp only [List.length_drop, List.length_take]; rfl)) ?_; (with_reducible refine (pandectref01_Is.calls k2 (rdOf ByteArray.empty l0_1 x4_2) false _ A38.out).mono ?_); rintro e w' ⟨rfl, ⟨nd, rfl⟩⟩; refine ⟨_, rfl, ?_⟩))
                    go_ret
                    exact ⟨by first | rfl | (simp [errW_none, errW_some] <;> rfl) | (simp [*, errW_none, errW_some] <;> rfl), by repeat (first | (with_reducible first | exact HB.out | apply below_alloc | apply pw_below_drewN | apply below_drew1 | refine below_set ?_ GE341.out) | exact HB.out)⟩
                · rw [if_neg c37] at H
                  exact absurd H (by simp)
              · rw [if_neg c36] at H
                exact absurd H (by simp)
            · rw [if_neg c35] at H
              have c35b0 : decide (x4_2 < (l0_1.length : Int)) = false := decide_eq_false c35
              clear c35
              obtain rfl := Option.some.inj H
              go_wp2
              go_ret
              exact ⟨by first | rfl | (simp [errW_none, errW_some] <;> rfl) | (simp [*, errW_none, errW_some] <;> rfl), by repeat (first | (with_reducible first | exact HB.out | apply below_alloc | apply pw_below_drewN | apply below_drew1 | refine below_set ?_ GE341.out) | exact HB.out)⟩

end Go.Proofs.YtoimnllcniefoaaDoor.P
