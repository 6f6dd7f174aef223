import Derived.Test.YtoimnllcniefoaaDoorKPx0
import Derived.Test.YtoimnllcniefoaaDoorKOPx7
import Derived.Test.YtoimnllcniefoaaDoorKD
import Derived.Test.YtoimnllcniefoaaDoorKTa
import Derived.Test.YtoimnllcniefoaaDoorKVa
import Derived.Test.YtoimnllcniefoaaDoorKVb
set_option linter.unusedVariables false
set_option linter.unusedSimpArgs false
-- PRINTED by print.py (a twelfth state) out of the translation. Not trusted: Lean checks it.
namespace Go.Proofs.YtoimnllcniefoaaDoor.P
open Go.RowKit Go.Proofs.YtoimnllcniefoaaDoorW.PrintWords Go.Proofs.YtoimnllcniefoaaDoorW.PrintLast Go.Proofs.YtoimnllcniefoaaDoorW.PrintMore
attribute [local go_sem] max2_int min2_int max_two min_two max_three min_three max_four min_four   -- for this text's walks alone
set_option linter.unusedVariables false
set_option linter.unusedSimpArgs false

/-! ### pandectlaw39_VoteOnce: function 4 -/
mutual
def pandectlaw39_VoteOnce.j0 : Nat → ByteArray → List (S33) → Bool → Bool → Int → List ByteArray → Int → Int → Int → Option (Bool)
  | 0, _, _, _, _, _, _, _, _, _ => none
  | k + 1, x1, x2, x7, x25, x246000, x246001, x246002, x246003, x246004 => if x25 = true then (some x7) else ((vote_Count.f k x246000 x246001 x246002 x246003 x246004 x1 x2).bind fun bt248 => (if bt248.1 < 0 then (pandectlaw39_VoteOnce.j1 k x1 x2 x7 bt248.1 bt248.2.2 true x246000 x246001 x246002 x246003 x246004) else (if bt248.2.1 < 0 then (pandectlaw39_VoteOnce.j1 k x1 x2 x7 bt248.1 bt248.2.2 true x246000 x246001 x246002 x246003 x246004) else (if (wrap64 ((wrap64 (bt248.1 + bt248.2.1)) + (bt248.2.2.length : Int))) = (x2.length : Int) then (pandectlaw39_VoteOnce.j1 k x1 x2 x7 bt248.1 bt248.2.2 (decide ((wrap64 (bt248.1 + bt248.2.1)) > (x246001.length : Int))) x246000 x246001 x246002 x246003 x246004) else (pandectlaw39_VoteOnce.j1 k x1 x2 x7 bt248.1 bt248.2.2 true x246000 x246001 x246002 x246003 x246004)))))
def pandectlaw39_VoteOnce.j1 : Nat → ByteArray → List (S33) → Bool → Int → List Int → Bool → Int → List ByteArray → Int → Int → Int → Option (Bool)
  | 0, _, _, _, _, _, _, _, _, _, _, _ => none
  | k + 1, x1, x2, x7, x8, x10, x60, x246000, x246001, x246002, x246003, x246004 => if x60 = true then (some false) else (if 0 ≤ (x246001.length : Int) then (if ((x246001.length : Int) : Int).toNat ≤ 281474976710656 then (pandectlaw39_VoteOnce.l0 k x1 x2 x7 x8 x10 (List.replicate ((x246001.length : Int) : Int).toNat false) 0 0 0 x246000 x246001 x246002 x246003 x246004) else (none)) else (none))
def pandectlaw39_VoteOnce.l0 : Nat → ByteArray → List (S33) → Bool → Int → List Int → List Bool → Int → Int → Int → Int → List ByteArray → Int → Int → Int → Option (Bool)
  | 0, _, _, _, _, _, _, _, _, _, _, _, _, _, _ => none
  | k + 1, x1, x2, x7, x8, x10, x11, x12, x13, x14, x246000, x246001, x246002, x246003, x246004 => if x14 < (x2.length : Int) then (if x12 < (x10.length : Int) then (if 0 ≤ x12 then (pandectlaw39_VoteOnce.j3 k x1 x2 x7 x8 x10 x11 x12 x13 x14 ((rd x10 x12) == x14) x246000 x246001 x246002 x246003 x246004) else (none)) else (pandectlaw39_VoteOnce.j3 k x1 x2 x7 x8 x10 x11 x12 x13 x14 false x246000 x246001 x246002 x246003 x246004)) else (if x7 = true then (if x12 = (x10.length : Int) then (some (x13 == x8)) else (some false)) else (some false))
def pandectlaw39_VoteOnce.j3 : Nat → ByteArray → List (S33) → Bool → Int → List Int → List Bool → Int → Int → Int → Bool → Int → List ByteArray → Int → Int → Int → Option (Bool)
  | 0, _, _, _, _, _, _, _, _, _, _, _, _, _, _, _ => none
  | k + 1, x1, x2, x7, x8, x10, x11, x12, x13, x14, x82, x246000, x246001, x246002, x246003, x246004 => if x82 = true then (pandectlaw39_VoteOnce.l0 k x1 x2 x7 x8 x10 x11 (wrap64 (x12 + 1)) x13 (wrap64 (x14 + 1)) x246000 x246001 x246002 x246003 x246004) else (if 0 ≤ x14 then (if x14 < (x2.length : Int) then (if ((rd_T33 x2 x14).f0) < 0 then (pandectlaw39_VoteOnce.j4 k x1 x2 x7 x8 x10 x11 x12 x13 x14 ((rd_T33 x2 x14).f0) true x246000 x246001 x246002 x246003 x246004) else (if ((rd_T33 x2 x14).f0) ≥ (x11.length : Int) then (pandectlaw39_VoteOnce.j4 k x1 x2 x7 x8 x10 x11 x12 x13 x14 ((rd_T33 x2 x14).f0) true x246000 x246001 x246002 x246003 x246004) else (if 0 ≤ ((rd_T33 x2 x14).f0) then (if ((rd_T33 x2 x14).f0) < (x11.length : Int) then (if rdOf false x11 ((rd_T33 x2 x14).f0) = true then (pandectlaw39_VoteOnce.j4 k x1 x2 x7 x8 x10 x11 x12 x13 x14 ((rd_T33 x2 x14).f0) true x246000 x246001 x246002 x246003 x246004) else (if ((rd_T33 x2 x14).f1).toList = x1.toList then (pandectlaw39_VoteOnce.j4 k x1 x2 x7 x8 x10 x11 x12 x13 x14 ((rd_T33 x2 x14).f0) (((rd_T33 x2 x14).f2) != x246000) x246000 x246001 x246002 x246003 x246004) else (pandectlaw39_VoteOnce.j4 k x1 x2 x7 x8 x10 x11 x12 x13 x14 ((rd_T33 x2 x14).f0) true x246000 x246001 x246002 x246003 x246004))) else (none)) else (none)))) else (none)) else (none))
def pandectlaw39_VoteOnce.j4 : Nat → ByteArray → List (S33) → Bool → Int → List Int → List Bool → Int → Int → Int → Int → Bool → Int → List ByteArray → Int → Int → Int → Option (Bool)
  | 0, _, _, _, _, _, _, _, _, _, _, _, _, _, _, _, _ => none
  | k + 1, x1, x2, x7, x8, x10, x11, x12, x13, x14, x15, x122, x246000, x246001, x246002, x246003, x246004 => if x122 = true then (some false) else (if 0 ≤ x15 then (if x15 < (x11.length : Int) then ((some (x11.set (x15 : Int).toNat true : List Bool)).bind fun y261 => (if 0 ≤ x14 then (if x14 < (x2.length : Int) then (if (rd_T33 x2 x14).f3 = true then (pandectlaw39_VoteOnce.l0 k x1 x2 x7 x8 x10 y261 x12 (wrap64 (x13 + 1)) (wrap64 (x14 + 1)) x246000 x246001 x246002 x246003 x246004) else (pandectlaw39_VoteOnce.l0 k x1 x2 x7 x8 x10 y261 x12 x13 (wrap64 (x14 + 1)) x246000 x246001 x246002 x246003 x246004)) else (none)) else (none))) else (none)) else (none))
end
def pandectlaw39_VoteOnce.f (k : Nat) (a0_0 : Int) (l0_1 : List ByteArray) (a0_2 : Int) (a0_3 : Int) (a0_4 : Int) (a1 : ByteArray) (l2 : List (S33)) : Option (Bool) := (pandectlaw39_head.f k).bind fun t246 => ((pandectlaw39_few.f k a0_0 l0_1 a0_2 a0_3 a0_4 l2).bind fun t247 => (if t247 = true then (pandectlaw39_VoteOnce.j0 k a1 l2 t246 (decide ((a1.size : Int) > 100)) a0_0 l0_1 a0_2 a0_3 a0_4) else (pandectlaw39_VoteOnce.j0 k a1 l2 t246 true a0_0 l0_1 a0_2 a0_3 a0_4)))
set_option maxHeartbeats 8000000 in
set_option maxRecDepth 100000 in
theorem pandectlaw39_VoteOnce.calls (k : Nat) (a0_0 : Int) (A0_1 : Option Addr) (c0_1 : Nat) (l0_1 : List ByteArray) (a0_2 : Int) (a0_3 : Int) (a0_4 : Int) (a1 : ByteArray) (A2 : Option Addr) (c2 : Nat) (l2 : List (S33)) (r : Bool) (w : World) (hr0_1 : Kd.C Kd.string w A0_1 l0_1.length l0_1) (hc0_1 : l0_1.length ≤ c0_1) (hr2 : Kd.C k33 w A2 l2.length l2) (hc2 : l2.length ≤ c2) (hT : Tabs w) (h : pandectlaw39_VoteOnce.f k a0_0 l0_1 a0_2 a0_3 a0_4 a1 l2 = some r) :
    Calls Tryd.prog 4 #[.agg #[.int .i64 a0_0, .slice A0_1 l0_1.length c0_1, .int .i64 a0_2, .int .i64 a0_3, .int .i64 a0_4], .string a1, .slice A2 l2.length c2] w fun e w' => e = .returned (.bool r) ∧ Below w.heap.size w w' := by
  have hu24 := Tryd.underlying24
  have HT := Aside0.mk hT
  clear hT
  have HR0_1 := Aside0.mk hr0_1
  have HC0_1 := Aside0.mk hc0_1
  clear hr0_1 hc0_1
  have HR2 := Aside0.mk hr2
  have HC2 := Aside0.mk hc2
  clear hr2 hc2
  have HB := Aside0.mk (Below.refl w.heap.size w)
  have H : ((pandectlaw39_head.f k).bind fun t246 => ((pandectlaw39_few.f k a0_0 l0_1 a0_2 a0_3 a0_4 l2).bind fun t247 => (if t247 = true then (pandectlaw39_VoteOnce.j0 k a1 l2 t246 (decide ((a1.size : Int) > 100)) a0_0 l0_1 a0_2 a0_3 a0_4) else (pandectlaw39_VoteOnce.j0 k a1 l2 t246 true a0_0 l0_1 a0_2 a0_3 a0_4)))) = some r := h
  clear h
  replace H := Option.bind_eq_some_iff.mp H
  obtain ⟨t246, A40, H⟩ := H
  replace H : ((pandectlaw39_few.f k a0_0 l0_1 a0_2 a0_3 a0_4 l2).bind fun t247 => (if t247 = true then (pandectlaw39_VoteOnce.j0 k a1 l2 t246 (decide ((a1.size : Int) > 100)) a0_0 l0_1 a0_2 a0_3 a0_4) else (pandectlaw39_VoteOnce.j0 k a1 l2 t246 true a0_0 l0_1 a0_2 a0_3 a0_4))) = some r := H
  have A4 := Aside0.mk A40
  clear A40
  have HC5 := Aside0.mk H
  clear H
  go_enter Tryd.func4, Tryd.ntmps4
  go_upto_region 2 with (first | ((with_reducible refine gate_dst (N := 3) rfl ?_); (try (refine gate_guard (by rfl) ?_; dsimp only)); refine box_event ?hg (N := 3) ?hd (cs := #[.int .i64 a0_0, .slice A0_1 l0_1.length c0_1, .int .i64 a0_2, .int .i64 a0_3, .int .i64 a0_4]) (t := 24) ?hr ?_; (case hd => rfl); (case hg => rfl); (case hr => first | (go_simp; done) | (go_simp; rfl)); intro gb245 hg w6 hbox hb; have n0_ := Aside0.mk (below_step (by first | exact upB HB.out | exact HB.out) hb); have n1_ := Aside0.mk (hbox); have n2_ := Aside0.mk ((by rw [hg]; exact (below_size (by first | exact upB HB.out | exact HB.out)) : w.heap.size ≤ gb245)); have n3_ := Aside0.mk ((by rw [hg]; exact (below_size (by first | exact upB HB.out | exact HB.out)) : w.heap.size ≤ gb245)); clear HB; have HB := n0_; have BK245 := n1_; have GW245 := n2_; have GE245 := n3_; clear n0_ n1_ n2_ n3_; clear hb hbox hg) | (go_at_call 9; (with_reducible refine (pandectlaw39_head.calls k  t246 _ ?side1 A4.out).mono ?_); (case side1 => exact tabs_below HT.out (by repeat (first | (with_reducible first | exact HB.out | apply below_alloc | apply pw_below_drewN | apply below_drew1 | refine below_set ?_ GE245.out) | exact HB.out))); rintro e w7 ⟨rfl, hb⟩; have n0_ := Aside0.mk (blk_below (g := gb245) (o := .cells #[.int .i64 a0_0, .slice A0_1 l0_1.length c0_1, .int .i64 a0_2, .int .i64 a0_3, .int .i64 a0_4] 24 (0, 0)) (by (with_reducible repeat (first | refine blk_drewN ?_ _ | refine blk_drew ?_ | refine blk_alloc ?_ _)); exact BK245.out) hb); have n1_ := Aside0.mk (below_step (by repeat (first | (with_reducible first | exact HB.out | apply below_alloc | apply pw_below_drewN | apply below_drew1 | refine below_set ?_ GE245.out) | exact HB.out)) hb); clear BK245; clear HB; have BK245 := n0_; have HB := n1_; clear n0_ n1_; (try clear hb); (try clear hb2); (try clear hk); (try clear hi)))
  repeat (go_quiet (first | ((with_reducible refine gate_dst (N := 3) rfl ?_); (try (refine gate_guard (by rfl) ?_; dsimp only)); refine box_event ?hg (N := 3) ?hd (cs := #[.int .i64 a0_0, .slice A0_1 l0_1.length c0_1, .int .i64 a0_2, .int .i64 a0_3, .int .i64 a0_4]) (t := 24) ?hr ?_; (case hd => rfl); (case hg => rfl); (case hr => first | (go_simp; done) | (go_simp; rfl)); intro gb245 hg w6 hbox hb; have n0_ := Aside0.mk (below_step (by first | exact upB HB.out | exact HB.out) hb); have n1_ := Aside0.mk (hbox); have n2_ := Aside0.mk ((by rw [hg]; exact (below_size (by first | exact upB HB.out | exact HB.out)) : w.heap.size ≤ gb245)); have n3_ := Aside0.mk ((by rw [hg]; exact (below_size (by first | exact upB HB.out | exact HB.out)) : w.heap.size ≤ gb245)); clear HB; have HB := n0_; have BK245 := n1_; have GW245 := n2_; have GE245 := n3_; clear n0_ n1_ n2_ n3_; clear hb hbox hg) | (go_at_call 9; (with_reducible refine (pandectlaw39_head.calls k  t246 _ ?side1 A4.out).mono ?_); (case side1 => exact tabs_below HT.out (by repeat (first | (with_reducible first | exact HB.out | apply below_alloc | apply pw_below_drewN | apply below_drew1 | refine below_set ?_ GE245.out) | exact HB.out))); rintro e w7 ⟨rfl, hb⟩; have n0_ := Aside0.mk (blk_below (g := gb245) (o := .cells #[.int .i64 a0_0, .slice A0_1 l0_1.length c0_1, .int .i64 a0_2, .int .i64 a0_3, .int .i64 a0_4] 24 (0, 0)) (by (with_reducible repeat (first | refine blk_drewN ?_ _ | refine blk_drew ?_ | refine blk_alloc ?_ _)); exact BK245.out) hb); have n1_ := Aside0.mk (below_step (by repeat (first | (with_reducible first | exact HB.out | apply below_alloc | apply pw_below_drewN | apply below_drew1 | refine below_set ?_ GE245.out) | exact HB.out)) hb); clear BK245; clear HB; have BK245 := n0_; have HB := n1_; clear n0_ n1_; (try clear hb); (try clear hb2); (try clear hk); (try clear hi))); go_upto_region 2 with (first | ((with_reducible refine gate_dst (N := 3) rfl ?_); (try (refine gate_guard (by rfl) ?_; dsimp only)); refine box_event ?hg (N := 3) ?hd (cs := #[.int .i64 a0_0, .slice A0_1 l0_1.length c0_1, .int .i64 a0_2, .int .i64 a0_3, .int .i64 a0_4]) (t := 24) ?hr ?_; (case hd => rfl); (case hg => rfl); (case hr => first | (go_simp; done) | (go_simp; rfl)); intro gb245 hg w6 hbox hb; have n0_ := Aside0.mk (below_step (by first | exact upB HB.out | exact HB.out) hb); have n1_ := Aside0.mk (hbox); have n2_ := Aside0.mk ((by rw [hg]; exact (below_size (by first | exact upB HB.out | exact HB.out)) : w.heap.size ≤ gb245)); have n3_ := Aside0.mk ((by rw [hg]; exact (below_size (by first | exact upB HB.out | exact HB.out)) : w.heap.size ≤ gb245)); clear HB; have HB := n0_; have BK245 := n1_; have GW245 := n2_; have GE245 := n3_; clear n0_ n1_ n2_ n3_; clear hb hbox hg) | (go_at_call 9; (with_reducible refine (pandectlaw39_head.calls k  t246 _ ?side1 A4.out).mono ?_); (case side1 => exact tabs_below HT.out (by repeat (first | (with_reducible first | exact HB.out | apply below_alloc | apply pw_below_drewN | apply below_drew1 | refine below_set ?_ GE245.out) | exact HB.out))); rintro e w7 ⟨rfl, hb⟩; have n0_ := Aside0.mk (blk_below (g := gb245) (o := .cells #[.int .i64 a0_0, .slice A0_1 l0_1.length c0_1, .int .i64 a0_2, .int .i64 a0_3, .int .i64 a0_4] 24 (0, 0)) (by (with_reducible repeat (first | refine blk_drewN ?_ _ | refine blk_drew ?_ | refine blk_alloc ?_ _)); exact BK245.out) hb); have n1_ := Aside0.mk (below_step (by repeat (first | (with_reducible first | exact HB.out | apply below_alloc | apply pw_below_drewN | apply below_drew1 | refine below_set ?_ GE245.out) | exact HB.out)) hb); clear BK245; clear HB; have BK245 := n0_; have HB := n1_; clear n0_ n1_; (try clear hb); (try clear hb2); (try clear hk); (try clear hi))))
  (try simp only [Act.put, List.setIfInBounds_toArray, List.set_cons_zero, List.set_cons_succ])
  go_cut [25] (fun v25 wc => ∃ (kq : Nat) (x25_4 : Bool), v25 = .bool x25_4 ∧ Aside0 (pandectlaw39_VoteOnce.j0 kq a1 l2 t246 x25_4 a0_0 l0_1 a0_2 a0_3 a0_4 = some r) ∧ Aside0 (kq ≤ k) ∧ Aside0 (wc.heap[gb245]? = some (.cells #[.int .i64 a0_0, (.slice A0_1 l0_1.length c0_1), .int .i64 a0_2, .int .i64 a0_3, .int .i64 a0_4] 24 (0, 0))) ∧ Aside0 (Below w.heap.size w wc))
  case first =>
    have H := HC5.out
    clear HC5
    replace H := Option.bind_eq_some_iff.mp H
    obtain ⟨t247, A80, H⟩ := H
    replace H : (if t247 = true then (pandectlaw39_VoteOnce.j0 k a1 l2 t246 (decide ((a1.size : Int) > 100)) a0_0 l0_1 a0_2 a0_3 a0_4) else (pandectlaw39_VoteOnce.j0 k a1 l2 t246 true a0_0 l0_1 a0_2 a0_3 a0_4)) = some r := H
    have A8 := Aside0.mk A80
    clear A80
    by_cases c9 : t247 = true
    · subst c9
      have H1 : (pandectlaw39_VoteOnce.j0 k a1 l2 t246 (decide ((a1.size : Int) > 100)) a0_0 l0_1 a0_2 a0_3 a0_4) = some r := by rw [if_pos rfl] at H; exact H
      clear H
      have H := H1
      clear H1
      have H' := Aside0.mk H
      clear H
      have hcz10_0 : w7.cell? ⟨gb245, 0, none⟩ = some (.int .i64 a0_0) := (blk_cell BK245.out 0).trans rfl
      have hcz10_1 : w7.cell? ⟨gb245, 1, none⟩ = some (.slice A0_1 l0_1.length c0_1) := (blk_cell BK245.out 1).trans rfl
      have hcz10_2 : w7.cell? ⟨gb245, 2, none⟩ = some (.int .i64 a0_2) := (blk_cell BK245.out 2).trans rfl
      have hcz10_3 : w7.cell? ⟨gb245, 3, none⟩ = some (.int .i64 a0_3) := (blk_cell BK245.out 3).trans rfl
      have hcz10_4 : w7.cell? ⟨gb245, 4, none⟩ = some (.int .i64 a0_4) := (blk_cell BK245.out 4).trans rfl
      have hfz10_0 := blk_frozen BK245.out 0
      have hfz10_1 := blk_frozen BK245.out 1
      have hfz10_2 := blk_frozen BK245.out 2
      have hfz10_3 := blk_frozen BK245.out 3
      have hfz10_4 := blk_frozen BK245.out 4
      go_wp2_with (first | (go_at_call 10; (with_reducible refine (pandectlaw39_few.calls k a0_0 _ _ l0_1 a0_2 a0_3 a0_4 _ _ l2 true _ ?side1 ?side2 ?side3 ?side4 A8.out).mono ?_); (case side1 => exact upC ((Kd.C_below HR0_1.out HB.out))); (case side2 => exact HC0_1.out); (case side3 => exact upC ((Kd.C_below HR2.out HB.out))); (case side4 => exact HC2.out); rintro e w11 ⟨rfl, hb⟩; have n0_ := Aside0.mk (blk_below (g := gb245) (o := .cells #[.int .i64 a0_0, .slice A0_1 l0_1.length c0_1, .int .i64 a0_2, .int .i64 a0_3, .int .i64 a0_4] 24 (0, 0)) (by (with_reducible repeat (first | refine blk_drewN ?_ _ | refine blk_drew ?_ | refine blk_alloc ?_ _)); exact BK245.out) hb); have n1_ := Aside0.mk (below_step (by repeat (first | (with_reducible first | exact HB.out | apply below_alloc | apply pw_below_drewN | apply below_drew1 | refine below_set ?_ GE245.out) | exact HB.out)) hb); clear BK245; clear HB; have BK245 := n0_; have HB := n1_; clear n0_ n1_; (try clear hb); (try clear hb2); (try clear hk); (try clear hi)))
      repeat (go_quiet (first | (go_at_call 10; (with_reducible refine (pandectlaw39_few.calls k a0_0 _ _ l0_1 a0_2 a0_3 a0_4 _ _ l2 true _ ?side1 ?side2 ?side3 ?side4 A8.out).mono ?_); (case side1 => exact upC ((Kd.C_below HR0_1.out HB.out))); (case side2 => exact HC0_1.out); (case side3 => exact upC ((Kd.C_below HR2.out HB.out))); (case side4 => exact HC2.out); rintro e w11 ⟨rfl, hb⟩; have n0_ := Aside0.mk (blk_below (g := gb245) (o := .cells #[.int .i64 a0_0, .slice A0_1 l0_1.length c0_1, .int .i64 a0_2, .int .i64 a0_3, .int .i64 a0_4] 24 (0, 0)) (by (with_reducible repeat (first | refine blk_drewN ?_ _ | refine blk_drew ?_ | refine blk_alloc ?_ _)); exact BK245.out) hb); have n1_ := Aside0.mk (below_step (by repeat (first | (with_reducible first | exact HB.out | apply below_alloc | apply pw_below_drewN | apply below_drew1 | refine below_set ?_ GE245.out) | exact HB.out)) hb); clear BK245; clear HB; have BK245 := n0_; have HB := n1_; clear n0_ n1_; (try clear hb); (try clear hb2); (try clear hk); (try clear hi))); try go_wp2_with (first | (go_at_call 10; (with_reducible refine (pandectlaw39_few.calls k a0_0 _ _ l0_1 a0_2 a0_3 a0_4 _ _ l2 true _ ?side1 ?side2 ?side3 ?side4 A8.out).mono ?_); (case side1 => exact upC ((Kd.C_below HR0_1.out HB.out))); (case side2 => exact HC0_1.out); (case side3 => exact upC ((Kd.C_below HR2.out HB.out))); (case side4 => exact HC2.out); rintro e w11 ⟨rfl, hb⟩; have n0_ := Aside0.mk (blk_below (g := gb245) (o := .cells #[.int .i64 a0_0, .slice A0_1 l0_1.length c0_1, .int .i64 a0_2, .int .i64 a0_3, .int .i64 a0_4] 24 (0, 0)) (by (with_reducible repeat (first | refine blk_drewN ?_ _ | refine blk_drew ?_ | refine blk_alloc ?_ _)); exact BK245.out) hb); have n1_ := Aside0.mk (below_step (by repeat (first | (with_reducible first | exact HB.out | apply below_alloc | apply pw_below_drewN | apply below_drew1 | refine below_set ?_ GE245.out) | exact HB.out)) hb); clear BK245; clear HB; have BK245 := n0_; have HB := n1_; clear n0_ n1_; (try clear hb); (try clear hb2); (try clear hk); (try clear hi))))
      go_meet
      case rel => exact ⟨_, (decide ((a1.size : Int) > 100)), (by first | rfl | (simp; done) | (simp [*]; done)), H', ⟨by first | omega | exact Nat.le_refl _⟩, ⟨by (with_reducible repeat (first | refine blk_drewN ?_ _ | refine blk_drew ?_ | refine blk_alloc ?_ _)); exact BK245.out⟩, ⟨by repeat (first | (with_reducible first | exact HB.out | apply below_alloc | apply pw_below_drewN | apply below_drew1 | refine below_set ?_ GE245.out) | exact HB.out)⟩⟩
    · replace c9 := Bool.eq_false_iff.mpr c9
      subst c9
      have H1 : (pandectlaw39_VoteOnce.j0 k a1 l2 t246 true a0_0 l0_1 a0_2 a0_3 a0_4) = some r := by rw [if_neg (show ¬ (false = true) by decide)] at H; exact H
      clear H
      have H := H1
      clear H1
      have H' := Aside0.mk H
      clear H
      have hcz12_0 : w7.cell? ⟨gb245, 0, none⟩ = some (.int .i64 a0_0) := (blk_cell BK245.out 0).trans rfl
      have hcz12_1 : w7.cell? ⟨gb245, 1, none⟩ = some (.slice A0_1 l0_1.length c0_1) := (blk_cell BK245.out 1).trans rfl
      have hcz12_2 : w7.cell? ⟨gb245, 2, none⟩ = some (.int .i64 a0_2) := (blk_cell BK245.out 2).trans rfl
      have hcz12_3 : w7.cell? ⟨gb245, 3, none⟩ = some (.int .i64 a0_3) := (blk_cell BK245.out 3).trans rfl
      have hcz12_4 : w7.cell? ⟨gb245, 4, none⟩ = some (.int .i64 a0_4) := (blk_cell BK245.out 4).trans rfl
      have hfz12_0 := blk_frozen BK245.out 0
      have hfz12_1 := blk_frozen BK245.out 1
      have hfz12_2 := blk_frozen BK245.out 2
      have hfz12_3 := blk_frozen BK245.out 3
      have hfz12_4 := blk_frozen BK245.out 4
      go_wp2_with (first | (go_at_call 10; (with_reducible refine (pandectlaw39_few.calls k a0_0 _ _ l0_1 a0_2 a0_3 a0_4 _ _ l2 false _ ?side1 ?side2 ?side3 ?side4 A8.out).mono ?_); (case side1 => exact upC ((Kd.C_below HR0_1.out HB.out))); (case side2 => exact HC0_1.out); (case side3 => exact upC ((Kd.C_below HR2.out HB.out))); (case side4 => exact HC2.out); rintro e w13 ⟨rfl, hb⟩; have n0_ := Aside0.mk (blk_below (g := gb245) (o := .cells #[.int .i64 a0_0, .slice A0_1 l0_1.length c0_1, .int .i64 a0_2, .int .i64 a0_3, .int .i64 a0_4] 24 (0, 0)) (by (with_reducible repeat (first | refine blk_drewN ?_ _ | refine blk_drew ?_ | refine blk_alloc ?_ _)); exact BK245.out) hb); have n1_ := Aside0.mk (below_step (by repeat (first | (with_reducible first | exact HB.out | apply below_alloc | apply pw_below_drewN | apply below_drew1 | refine below_set ?_ GE245.out) | exact HB.out)) hb); clear BK245; clear HB; have BK245 := n0_; have HB := n1_; clear n0_ n1_; (try clear hb); (try clear hb2); (try clear hk); (try clear hi)))
      repeat (go_quiet (first | (go_at_call 10; (with_reducible refine (pandectlaw39_few.calls k a0_0 _ _ l0_1 a0_2 a0_3 a0_4 _ _ l2 false _ ?side1 ?side2 ?side3 ?side4 A8.out).mono ?_); (case side1 => exact upC ((Kd.C_below HR0_1.out HB.out))); (case side2 => exact HC0_1.out); (case side3 => exact upC ((Kd.C_below HR2.out HB.out))); (case side4 => exact HC2.out); rintro e w13 ⟨rfl, hb⟩; have n0_ := Aside0.mk (blk_below (g := gb245) (o := .cells #[.int .i64 a0_0, .slice A0_1 l0_1.length c0_1, .int .i64 a0_2, .int .i64 a0_3, .int .i64 a0_4] 24 (0, 0)) (by (with_reducible repeat (first | refine blk_drewN ?_ _ | refine blk_drew ?_ | refine blk_alloc ?_ _)); exact BK245.out) hb); have n1_ := Aside0.mk (below_step (by repeat (first | (with_reducible first | exact HB.out | apply below_alloc | apply pw_below_drewN | apply below_drew1 | refine below_set ?_ GE245.out) | exact HB.out)) hb); clear BK245; clear HB; have BK245 := n0_; have HB := n1_; clear n0_ n1_; (try clear hb); (try clear hb2); (try clear hk); (try clear hi))); try go_wp2_with (first | (go_at_call 10; (with_reducible refine (pandectlaw39_few.calls k a0_0 _ _ l0_1 a0_2 a0_3 a0_4 _ _ l2 false _ ?side1 ?side2 ?side3 ?side4 A8.out).mono ?_); (case side1 => exact upC ((Kd.C_below HR0_1.out HB.out))); (case side2 => exact HC0_1.out); (case side3 => exact upC ((Kd.C_below HR2.out HB.out))); (case side4 => exact HC2.out); rintro e w13 ⟨rfl, hb⟩; have n0_ := Aside0.mk (blk_below (g := gb245) (o := .cells #[.int .i64 a0_0, .slice A0_1 l0_1.length c0_1, .int .i64 a0_2, .int .i64 a0_3, .int .i64 a0_4] 24 (0, 0)) (by (with_reducible repeat (first | refine blk_drewN ?_ _ | refine blk_drew ?_ | refine blk_alloc ?_ _)); exact BK245.out) hb); have n1_ := Aside0.mk (below_step (by repeat (first | (with_reducible first | exact HB.out | apply below_alloc | apply pw_below_drewN | apply below_drew1 | refine below_set ?_ GE245.out) | exact HB.out)) hb); clear BK245; clear HB; have BK245 := n0_; have HB := n1_; clear n0_ n1_; (try clear hb); (try clear hb2); (try clear hk); (try clear hi))))
      go_meet
      case rel => exact ⟨_, (true), (by first | rfl | (simp; done) | (simp [*]; done)), H', ⟨by first | omega | exact Nat.le_refl _⟩, ⟨by (with_reducible repeat (first | refine blk_drewN ?_ _ | refine blk_drew ?_ | refine blk_alloc ?_ _)); exact BK245.out⟩, ⟨by repeat (first | (with_reducible first | exact HB.out | apply below_alloc | apply pw_below_drewN | apply below_drew1 | refine below_set ?_ GE245.out) | exact HB.out)⟩⟩
  case rest =>
    clear HC5
    try clear c2
    try clear p2
    try clear c4
    try clear c9
    try clear hcz10_0
    try clear hcz10_1
    try clear hcz10_2
    try clear hcz10_3
    try clear hcz10_4
    try clear hcz12_0
    try clear hcz12_1
    try clear hcz12_2
    try clear hcz12_3
    try clear hcz12_4
    try clear hfz10_0
    try clear hfz10_1
    try clear hfz10_2
    try clear hfz10_3
    try clear hfz10_4
    try clear hfz12_0
    try clear hfz12_1
    try clear hfz12_2
    try clear hfz12_3
    try clear hfz12_4
    obtain ⟨kq, x25_4, rfl, HA, HJ4, BK245, HB⟩ := hcut
    cases kq with
    | zero => exact absurd HA.out (by simp [pandectlaw39_VoteOnce.j0])
    | succ kj4 =>
      have H := HA.out
      clear HA
      simp only [pandectlaw39_VoteOnce.j0] at H
      by_cases c14 : x25_4 = true
      · subst c14
        have H1 : (some t246) = some r := by rw [if_pos rfl] at H; exact H
        clear H
        have H := H1
        clear H1
        obtain rfl := Option.some.inj H
        go_wp2
        repeat (go_quiet (fail); try go_wp2)
        go_ret
        exact ⟨by first | rfl | (simp [errW_none, errW_some] <;> rfl) | (simp [*, errW_none, errW_some] <;> rfl), by repeat (first | (with_reducible first | exact HB.out | apply below_alloc | apply pw_below_drewN | apply below_drew1 | refine below_set ?_ GE245.out) | exact HB.out)⟩
      · replace c14 := Bool.eq_false_iff.mpr c14
        subst c14
        have H1 : ((vote_Count.f kj4 a0_0 l0_1 a0_2 a0_3 a0_4 a1 l2).bind fun bt248 => (if bt248.1 < 0 then (pandectlaw39_VoteOnce.j1 kj4 a1 l2 t246 bt248.1 bt248.2.2 true a0_0 l0_1 a0_2 a0_3 a0_4) else (if bt248.2.1 < 0 then (pandectlaw39_VoteOnce.j1 kj4 a1 l2 t246 bt248.1 bt248.2.2 true a0_0 l0_1 a0_2 a0_3 a0_4) else (if (wrap64 ((wrap64 (bt248.1 + bt248.2.1)) + (bt248.2.2.length : Int))) = (l2.length : Int) then (pandectlaw39_VoteOnce.j1 kj4 a1 l2 t246 bt248.1 bt248.2.2 (decide ((wrap64 (bt248.1 + bt248.2.1)) > (l0_1.length : Int))) a0_0 l0_1 a0_2 a0_3 a0_4) else (pandectlaw39_VoteOnce.j1 kj4 a1 l2 t246 bt248.1 bt248.2.2 true a0_0 l0_1 a0_2 a0_3 a0_4))))) = some r := by rw [if_neg (show ¬ (false = true) by decide)] at H; exact H
        clear H
        have H := H1
        clear H1
        replace H := Option.bind_eq_some_iff.mp H
        obtain ⟨⟨t248, t249, t250⟩, A150, H⟩ := H
        replace H : (if t248 < 0 then (pandectlaw39_VoteOnce.j1 kj4 a1 l2 t246 t248 t250 true a0_0 l0_1 a0_2 a0_3 a0_4) else (if t249 < 0 then (pandectlaw39_VoteOnce.j1 kj4 a1 l2 t246 t248 t250 true a0_0 l0_1 a0_2 a0_3 a0_4) else (if (wrap64 ((wrap64 (t248 + t249)) + (t250.length : Int))) = (l2.length : Int) then (pandectlaw39_VoteOnce.j1 kj4 a1 l2 t246 t248 t250 (decide ((wrap64 (t248 + t249)) > (l0_1.length : Int))) a0_0 l0_1 a0_2 a0_3 a0_4) else (pandectlaw39_VoteOnce.j1 kj4 a1 l2 t246 t248 t250 true a0_0 l0_1 a0_2 a0_3 a0_4)))) = some r := H
        have A15 := Aside0.mk A150
        clear A150
        have HC16 := Aside0.mk H
        clear H
        have hcz17_0 : wc.cell? ⟨gb245, 0, none⟩ = some (.int .i64 a0_0) := (blk_cell BK245.out 0).trans rfl
        have hcz17_1 : wc.cell? ⟨gb245, 1, none⟩ = some (.slice A0_1 l0_1.length c0_1) := (blk_cell BK245.out 1).trans rfl
        have hcz17_2 : wc.cell? ⟨gb245, 2, none⟩ = some (.int .i64 a0_2) := (blk_cell BK245.out 2).trans rfl
        have hcz17_3 : wc.cell? ⟨gb245, 3, none⟩ = some (.int .i64 a0_3) := (blk_cell BK245.out 3).trans rfl
        have hcz17_4 : wc.cell? ⟨gb245, 4, none⟩ = some (.int .i64 a0_4) := (blk_cell BK245.out 4).trans rfl
        have hfz17_0 := blk_frozen BK245.out 0
        have hfz17_1 := blk_frozen BK245.out 1
        have hfz17_2 := blk_frozen BK245.out 2
        have hfz17_3 := blk_frozen BK245.out 3
        have hfz17_4 := blk_frozen BK245.out 4
        go_upto_region 5 with (first | (go_at_call 12; (with_reducible refine (vote_Count.calls kj4 a0_0 _ _ l0_1 a0_2 a0_3 a0_4 a1 _ _ l2 t248 t249 t250 _ ?side1 ?side2 ?side3 ?side4 ?side5 A15.out).mono ?_); (case side1 => exact upC ((Kd.C_below HR0_1.out HB.out))); (case side2 => exact HC0_1.out); (case side3 => exact upC ((Kd.C_below HR2.out HB.out))); (case side4 => exact HC2.out); (case side5 => exact tabs_below HT.out (by repeat (first | (with_reducible first | exact HB.out | apply below_alloc | apply pw_below_drewN | apply below_drew1 | refine below_set ?_ GE245.out) | exact HB.out))); rintro e w18 ⟨v251, rfl, ho0, hb⟩; have n0_ := Aside0.mk (Kd.R_lower ho0 (below_size (by repeat (first | (with_reducible first | exact HB.out | apply below_alloc | apply pw_below_drewN | apply below_drew1 | refine below_set ?_ GE245.out) | exact HB.out)))); have n1_ := Aside0.mk (blk_below (g := gb245) (o := .cells #[.int .i64 a0_0, .slice A0_1 l0_1.length c0_1, .int .i64 a0_2, .int .i64 a0_3, .int .i64 a0_4] 24 (0, 0)) (by (with_reducible repeat (first | refine blk_drewN ?_ _ | refine blk_drew ?_ | refine blk_alloc ?_ _)); exact BK245.out) hb); have n2_ := Aside0.mk (below_step (by repeat (first | (with_reducible first | exact HB.out | apply below_alloc | apply pw_below_drewN | apply below_drew1 | refine below_set ?_ GE245.out) | exact HB.out)) hb); clear BK245; clear HB; have HO252 := n0_; have BK245 := n1_; have HB := n2_; clear n0_ n1_ n2_; (try clear hb); (try clear hb2); (try clear hk); (try clear hi); (try clear ho0)))
        repeat (go_quiet (first | (go_at_call 12; (with_reducible refine (vote_Count.calls kj4 a0_0 _ _ l0_1 a0_2 a0_3 a0_4 a1 _ _ l2 t248 t249 t250 _ ?side1 ?side2 ?side3 ?side4 ?side5 A15.out).mono ?_); (case side1 => exact upC ((Kd.C_below HR0_1.out HB.out))); (case side2 => exact HC0_1.out); (case side3 => exact upC ((Kd.C_below HR2.out HB.out))); (case side4 => exact HC2.out); (case side5 => exact tabs_below HT.out (by repeat (first | (with_reducible first | exact HB.out | apply below_alloc | apply pw_below_drewN | apply below_drew1 | refine below_set ?_ GE245.out) | exact HB.out))); rintro e w18 ⟨v251, rfl, ho0, hb⟩; have n0_ := Aside0.mk (Kd.R_lower ho0 (below_size (by repeat (first | (with_reducible first | exact HB.out | apply below_alloc | apply pw_below_drewN | apply below_drew1 | refine below_set ?_ GE245.out) | exact HB.out)))); have n1_ := Aside0.mk (blk_below (g := gb245) (o := .cells #[.int .i64 a0_0, .slice A0_1 l0_1.length c0_1, .int .i64 a0_2, .int .i64 a0_3, .int .i64 a0_4] 24 (0, 0)) (by (with_reducible repeat (first | refine blk_drewN ?_ _ | refine blk_drew ?_ | refine blk_alloc ?_ _)); exact BK245.out) hb); have n2_ := Aside0.mk (below_step (by repeat (first | (with_reducible first | exact HB.out | apply below_alloc | apply pw_below_drewN | apply below_drew1 | refine below_set ?_ GE245.out) | exact HB.out)) hb); clear BK245; clear HB; have HO252 := n0_; have BK245 := n1_; have HB := n2_; clear n0_ n1_ n2_; (try clear hb); (try clear hb2); (try clear hk); (try clear hi); (try clear ho0))); go_upto_region 5 with (first | (go_at_call 12; (with_reducible refine (vote_Count.calls kj4 a0_0 _ _ l0_1 a0_2 a0_3 a0_4 a1 _ _ l2 t248 t249 t250 _ ?side1 ?side2 ?side3 ?side4 ?side5 A15.out).mono ?_); (case side1 => exact upC ((Kd.C_below HR0_1.out HB.out))); (case side2 => exact HC0_1.out); (case side3 => exact upC ((Kd.C_below HR2.out HB.out))); (case side4 => exact HC2.out); (case side5 => exact tabs_below HT.out (by repeat (first | (with_reducible first | exact HB.out | apply below_alloc | apply pw_below_drewN | apply below_drew1 | refine below_set ?_ GE245.out) | exact HB.out))); rintro e w18 ⟨v251, rfl, ho0, hb⟩; have n0_ := Aside0.mk (Kd.R_lower ho0 (below_size (by repeat (first | (with_reducible first | exact HB.out | apply below_alloc | apply pw_below_drewN | apply below_drew1 | refine below_set ?_ GE245.out) | exact HB.out)))); have n1_ := Aside0.mk (blk_below (g := gb245) (o := .cells #[.int .i64 a0_0, .slice A0_1 l0_1.length c0_1, .int .i64 a0_2, .int .i64 a0_3, .int .i64 a0_4] 24 (0, 0)) (by (with_reducible repeat (first | refine blk_drewN ?_ _ | refine blk_drew ?_ | refine blk_alloc ?_ _)); exact BK245.out) hb); have n2_ := Aside0.mk (below_step (by repeat (first | (with_reducible first | exact HB.out | apply below_alloc | apply pw_below_drewN | apply below_drew1 | refine below_set ?_ GE245.out) | exact HB.out)) hb); clear BK245; clear HB; have HO252 := n0_; have BK245 := n1_; have HB := n2_; clear n0_ n1_ n2_; (try clear hb); (try clear hb2); (try clear hk); (try clear hi); (try clear ho0))))
        (try simp only [Act.put, List.setIfInBounds_toArray, List.set_cons_zero, List.set_cons_succ])
        go_cut [60] (fun v60 wc => ∃ (kq : Nat) (x60_15 : Bool), v60 = .bool x60_15 ∧ Aside0 (pandectlaw39_VoteOnce.j1 kq a1 l2 t246 t248 t250 x60_15 a0_0 l0_1 a0_2 a0_3 a0_4 = some r) ∧ Aside0 (kq ≤ kj4) ∧ Aside0 (Kd.R (Kd.int .i64) 3 wc w.heap.size (fun _ => True) v251 t250) ∧ Aside0 (wc.heap[gb245]? = some (.cells #[.int .i64 a0_0, (.slice A0_1 l0_1.length c0_1), .int .i64 a0_2, .int .i64 a0_3, .int .i64 a0_4] 24 (0, 0))) ∧ Aside0 (Below w.heap.size w wc))
        case first =>
          have H := HC16.out
          clear HC16
          by_cases c19 : t248 < 0
          · rw [if_pos c19] at H
            have c19b0 : decide (t248 < 0) = true := decide_eq_true c19
            clear c19
            (first | rw [c19b0] | (simp only [i64_w, i32_w]; rw [c19b0]) | skip)
            have H' := Aside0.mk H
            clear H
            go_wp2
            repeat (go_quiet (fail); try go_wp2)
            go_meet
            case rel => exact ⟨_, (true), (by first | rfl | (simp; done) | (simp [*]; done)), H', ⟨by have := HJ4.out; first | omega | exact Nat.le_refl _⟩, ⟨by exact upR HO252.out⟩, ⟨by (with_reducible repeat (first | refine blk_drewN ?_ _ | refine blk_drew ?_ | refine blk_alloc ?_ _)); exact BK245.out⟩, ⟨by repeat (first | (with_reducible first | exact HB.out | apply below_alloc | apply pw_below_drewN | apply below_drew1 | refine below_set ?_ GE245.out) | exact HB.out)⟩⟩
          · rw [if_neg c19] at H
            have c19b0 : decide (t248 < 0) = false := decide_eq_false c19
            clear c19
            (first | rw [c19b0] | (simp only [i64_w, i32_w]; rw [c19b0]) | skip)
            by_cases c20 : t249 < 0
            · rw [if_pos c20] at H
              have c20b0 : decide (t249 < 0) = true := decide_eq_true c20
              clear c20
              have H' := Aside0.mk H
              clear H
              go_wp2
              repeat (go_quiet (fail); try go_wp2)
              go_meet
              case rel => exact ⟨_, (true), (by first | rfl | (simp; done) | (simp [*]; done)), H', ⟨by have := HJ4.out; first | omega | exact Nat.le_refl _⟩, ⟨by exact upR HO252.out⟩, ⟨by (with_reducible repeat (first | refine blk_drewN ?_ _ | refine blk_drew ?_ | refine blk_alloc ?_ _)); exact BK245.out⟩, ⟨by repeat (first | (with_reducible first | exact HB.out | apply below_alloc | apply pw_below_drewN | apply below_drew1 | refine below_set ?_ GE245.out) | exact HB.out)⟩⟩
            · rw [if_neg c20] at H
              have c20b0 : decide (t249 < 0) = false := decide_eq_false c20
              clear c20
              by_cases c21 : (wrap64 ((wrap64 (t248 + t249)) + (t250.length : Int))) = (l2.length : Int)
              · rw [if_pos c21] at H
                have c21b0 : ((wrap64 ((wrap64 (t248 + t249)) + (t250.length : Int))) == (l2.length : Int)) = true := beq_iff_eq.mpr c21
                have c21b1 : ((wrap64 ((wrap64 (t248 + t249)) + (t250.length : Int))) != (l2.length : Int)) = false := bne_eq_false_iff_eq.mpr c21
                clear c21
                have H' := Aside0.mk H
                clear H
                obtain ⟨Ao22, co22, eo22⟩ := Kd.R_slice HO252.out
                subst eo22
                have hcz23_0 : w18.cell? ⟨gb245, 0, none⟩ = some (.int .i64 a0_0) := (blk_cell BK245.out 0).trans rfl
                have hcz23_1 : w18.cell? ⟨gb245, 1, none⟩ = some (.slice A0_1 l0_1.length c0_1) := (blk_cell BK245.out 1).trans rfl
                have hcz23_2 : w18.cell? ⟨gb245, 2, none⟩ = some (.int .i64 a0_2) := (blk_cell BK245.out 2).trans rfl
                have hcz23_3 : w18.cell? ⟨gb245, 3, none⟩ = some (.int .i64 a0_3) := (blk_cell BK245.out 3).trans rfl
                have hcz23_4 : w18.cell? ⟨gb245, 4, none⟩ = some (.int .i64 a0_4) := (blk_cell BK245.out 4).trans rfl
                have hfz23_0 := blk_frozen BK245.out 0
                have hfz23_1 := blk_frozen BK245.out 1
                have hfz23_2 := blk_frozen BK245.out 2
                have hfz23_3 := blk_frozen BK245.out 3
                have hfz23_4 := blk_frozen BK245.out 4
                go_wp2
                repeat (go_quiet (fail); try go_wp2)
                go_meet
                case rel => exact ⟨_, (decide ((wrap64 (t248 + t249)) > (l0_1.length : Int))), (by first | rfl | (simp; done) | (simp [*]; done)), H', ⟨by have := HJ4.out; first | omega | exact Nat.le_refl _⟩, ⟨by exact upR HO252.out⟩, ⟨by (with_reducible repeat (first | refine blk_drewN ?_ _ | refine blk_drew ?_ | refine blk_alloc ?_ _)); exact BK245.out⟩, ⟨by repeat (first | (with_reducible first | exact HB.out | apply below_alloc | apply pw_below_drewN | apply below_drew1 | refine below_set ?_ GE245.out) | exact HB.out)⟩⟩
              · rw [if_neg c21] at H
                have c21b0 : ((wrap64 ((wrap64 (t248 + t249)) + (t250.length : Int))) == (l2.length : Int)) = false := beq_eq_false_iff_ne.mpr c21
                have c21b1 : ((wrap64 ((wrap64 (t248 + t249)) + (t250.length : Int))) != (l2.length : Int)) = true := bne_iff_ne.mpr c21
                have H' := Aside0.mk H
                clear H
                obtain ⟨Ao24, co24, eo24⟩ := Kd.R_slice HO252.out
                subst eo24
                go_wp2
                repeat (go_quiet (fail); try go_wp2)
                go_meet
                case rel => exact ⟨_, (true), (by first | rfl | (simp; done) | (simp [*]; done)), H', ⟨by have := HJ4.out; first | omega | exact Nat.le_refl _⟩, ⟨by exact upR HO252.out⟩, ⟨by (with_reducible repeat (first | refine blk_drewN ?_ _ | refine blk_drew ?_ | refine blk_alloc ?_ _)); exact BK245.out⟩, ⟨by repeat (first | (with_reducible first | exact HB.out | apply below_alloc | apply pw_below_drewN | apply below_drew1 | refine below_set ?_ GE245.out) | exact HB.out)⟩⟩
        case rest =>
          clear HC16
          try clear c1
          try clear c2
          try clear p2
          try clear c4
          try clear p6
          try clear c9
          try clear c14
          try clear c19
          try clear c19b0
          try clear c20
          try clear c20b0
          try clear c21
          try clear c21b0
          try clear c21b1
          try clear hcz10_0
          try clear hcz10_1
          try clear hcz10_2
          try clear hcz10_3
          try clear hcz10_4
          try clear hcz12_0
          try clear hcz12_1
          try clear hcz12_2
          try clear hcz12_3
          try clear hcz12_4
          try clear hcz17_0
          try clear hcz17_1
          try clear hcz17_2
          try clear hcz17_3
          try clear hcz17_4
          try clear hcz23_0
          try clear hcz23_1
          try clear hcz23_2
          try clear hcz23_3
          try clear hcz23_4
          try clear hfz10_0
          try clear hfz10_1
          try clear hfz10_2
          try clear hfz10_3
          try clear hfz10_4
          try clear hfz12_0
          try clear hfz12_1
          try clear hfz12_2
          try clear hfz12_3
          try clear hfz12_4
          try clear hfz17_0
          try clear hfz17_1
          try clear hfz17_2
          try clear hfz17_3
          try clear hfz17_4
          try clear hfz23_0
          try clear hfz23_1
          try clear hfz23_2
          try clear hfz23_3
          try clear hfz23_4
          try clear p2
          obtain ⟨kq, x60_15, rfl, HA, HJ15, HO_10, BK245, HB⟩ := hcut
          cases kq with
          | zero => exact absurd HA.out (by simp [pandectlaw39_VoteOnce.j1])
          | succ kj15 =>
            have H := HA.out
            clear HA
            simp only [pandectlaw39_VoteOnce.j1] at H
            by_cases c25 : x60_15 = true
            · subst c25
              have H1 : (some false) = some r := by rw [if_pos rfl] at H; exact H
              clear H
              have H := H1
              clear H1
              obtain rfl := Option.some.inj H
              go_wp2
              repeat (go_quiet (fail); try go_wp2)
              go_ret
              exact ⟨by first | rfl | (simp [errW_none, errW_some] <;> rfl) | (simp [*, errW_none, errW_some] <;> rfl), by repeat (first | (with_reducible first | exact HB.out | apply below_alloc | apply pw_below_drewN | apply below_drew1 | refine below_set ?_ GE245.out) | exact HB.out)⟩
            · replace c25 := Bool.eq_false_iff.mpr c25
              subst c25
              have H1 : (if 0 ≤ (l0_1.length : Int) then (if ((l0_1.length : Int) : Int).toNat ≤ 281474976710656 then (pandectlaw39_VoteOnce.l0 kj15 a1 l2 t246 t248 t250 (List.replicate ((l0_1.length : Int) : Int).toNat false) 0 0 0 a0_0 l0_1 a0_2 a0_3 a0_4) else (none)) else (none)) = some r := by rw [if_neg (show ¬ (false = true) by decide)] at H; exact H
              clear H
              have H := H1
              clear H1
              by_cases c26 : 0 ≤ (l0_1.length : Int)
              · rw [if_pos c26] at H
                have c26b0 := eq_true c26
                have c26b1 : decide (0 ≤ (l0_1.length : Int)) = true := decide_eq_true c26
                clear c26
                by_cases c27 : ((l0_1.length : Int) : Int).toNat ≤ 281474976710656
                · rw [if_pos c27] at H
                  have c27b0 := eq_true c27
                  have c27b1 : decide (((l0_1.length : Int) : Int).toNat ≤ 281474976710656) = true := decide_eq_true c27
                  clear c27
                  obtain ⟨y253, hy253⟩ : ∃ y_ : List Bool, y_ = (List.replicate ((l0_1.length : Int) : Int).toNat false) := ⟨_, rfl⟩
                  replace H : (pandectlaw39_VoteOnce.l0 kj15 a1 l2 t246 t248 t250 y253 0 0 0 a0_0 l0_1 a0_2 a0_3 a0_4) = some r := by first | (rw [hy253]; with_reducible exact H) | (have H2_ := (Option.bind_some _ _).symm.trans H; rw [hy253]; with_reducible exact H2_) | (have H2_ := (Option.bind_some _ _).symm.trans H; with_reducible exact H2_) | with_reducible exact H | (rw [hy253]; exact H) | exact H
                  have Ny253 := Aside0.mk hy253
                  clear hy253
                  have H' := Aside0.mk H
                  clear H
                  have hcz28_0 : wc.cell? ⟨gb245, 0, none⟩ = some (.int .i64 a0_0) := (blk_cell BK245.out 0).trans rfl
                  have hcz28_1 : wc.cell? ⟨gb245, 1, none⟩ = some (.slice A0_1 l0_1.length c0_1) := (blk_cell BK245.out 1).trans rfl
                  have hcz28_2 : wc.cell? ⟨gb245, 2, none⟩ = some (.int .i64 a0_2) := (blk_cell BK245.out 2).trans rfl
                  have hcz28_3 : wc.cell? ⟨gb245, 3, none⟩ = some (.int .i64 a0_3) := (blk_cell BK245.out 3).trans rfl
                  have hcz28_4 : wc.cell? ⟨gb245, 4, none⟩ = some (.int .i64 a0_4) := (blk_cell BK245.out 4).trans rfl
                  have hfz28_0 := blk_frozen BK245.out 0
                  have hfz28_1 := blk_frozen BK245.out 1
                  have hfz28_2 := blk_frozen BK245.out 2
                  have hfz28_3 := blk_frozen BK245.out 3
                  have hfz28_4 := blk_frozen BK245.out 4
                  go_wp2_with (first | ((with_reducible refine gate_dst (N := 64) rfl ?_); (try (refine gate_guard (by rfl) ?_; dsimp only)); refine Kd.R_make Kd.bool _ 4 rfl (N := 64) rfl 40 _ _ rfl (l0_1.length : Int) rfl rfl Tryd.underlying40 (.bool false) 1 info4 rfl (by decide) (by omega) false (ok := fun _ => True) (okp := fun _ => True) rfl (fun _ hk => hk) trivial (of_decide_eq_true (by first | (with_reducible assumption) | assumption)) (Nat.le_trans (Nat.mul_le_mul_right _ (of_decide_eq_true (by first | (with_reducible assumption) | assumption) : (l0_1.length : Int).toNat ≤ 281474976710656)) (by omega)) (Below.refl _ _) (Nat.le_refl _) ?_; intro v254 w29 ho30 hb hg_ hnew_; clear hg_ hnew_; (first | rw [← Ny253.out] at ho30 | (simp only [Int.reduceToNat] at ho30; rw [← Ny253.out] at ho30)); have n0_ := Aside0.mk (Kd.R_below (by exact upR HO_10.out) hb); have n1_ := Aside0.mk (Kd.R_lower ho30 (below_size (by repeat (first | (with_reducible first | exact HB.out | apply below_alloc | apply pw_below_drewN | apply below_drew1 | refine below_set ?_ GE245.out) | exact HB.out)))); have n2_ := Aside0.mk (blk_below (g := gb245) (o := .cells #[.int .i64 a0_0, .slice A0_1 l0_1.length c0_1, .int .i64 a0_2, .int .i64 a0_3, .int .i64 a0_4] 24 (0, 0)) (by (with_reducible repeat (first | refine blk_drewN ?_ _ | refine blk_drew ?_ | refine blk_alloc ?_ _)); exact BK245.out) hb); have n3_ := Aside0.mk (below_step (by repeat (first | (with_reducible first | exact HB.out | apply below_alloc | apply pw_below_drewN | apply below_drew1 | refine below_set ?_ GE245.out) | exact HB.out)) hb); clear HO_10; clear BK245; clear HB; have HO_10 := n0_; have HO255 := n1_; have BK245 := n2_; have HB := n3_; clear n0_ n1_ n2_ n3_; clear hb ho30))
                  repeat (go_quiet (first | ((with_reducible refine gate_dst (N := 64) rfl ?_); (try (refine gate_guard (by rfl) ?_; dsimp only)); refine Kd.R_make Kd.bool _ 4 rfl (N := 64) rfl 40 _ _ rfl (l0_1.length : Int) rfl rfl Tryd.underlying40 (.bool false) 1 info4 rfl (by decide) (by omega) false (ok := fun _ => True) (okp := fun _ => True) rfl (fun _ hk => hk) trivial (of_decide_eq_true (by first | (with_reducible assumption) | assumption)) (Nat.le_trans (Nat.mul_le_mul_right _ (of_decide_eq_true (by first | (with_reducible assumption) | assumption) : (l0_1.length : Int).toNat ≤ 281474976710656)) (by omega)) (Below.refl _ _) (Nat.le_refl _) ?_; intro v254 w29 ho30 hb hg_ hnew_; clear hg_ hnew_; (first | rw [← Ny253.out] at ho30 | (simp only [Int.reduceToNat] at ho30; rw [← Ny253.out] at ho30)); have n0_ := Aside0.mk (Kd.R_below (by exact upR HO_10.out) hb); have n1_ := Aside0.mk (Kd.R_lower ho30 (below_size (by repeat (first | (with_reducible first | exact HB.out | apply below_alloc | apply pw_below_drewN | apply below_drew1 | refine below_set ?_ GE245.out) | exact HB.out)))); have n2_ := Aside0.mk (blk_below (g := gb245) (o := .cells #[.int .i64 a0_0, .slice A0_1 l0_1.length c0_1, .int .i64 a0_2, .int .i64 a0_3, .int .i64 a0_4] 24 (0, 0)) (by (with_reducible repeat (first | refine blk_drewN ?_ _ | refine blk_drew ?_ | refine blk_alloc ?_ _)); exact BK245.out) hb); have n3_ := Aside0.mk (below_step (by repeat (first | (with_reducible first | exact HB.out | apply below_alloc | apply pw_below_drewN | apply below_drew1 | refine below_set ?_ GE245.out) | exact HB.out)) hb); clear HO_10; clear BK245; clear HB; have HO_10 := n0_; have HO255 := n1_; have BK245 := n2_; have HB := n3_; clear n0_ n1_ n2_ n3_; clear hb ho30)); try go_wp2_with (first | ((with_reducible refine gate_dst (N := 64) rfl ?_); (try (refine gate_guard (by rfl) ?_; dsimp only)); refine Kd.R_make Kd.bool _ 4 rfl (N := 64) rfl 40 _ _ rfl (l0_1.length : Int) rfl rfl Tryd.underlying40 (.bool false) 1 info4 rfl (by decide) (by omega) false (ok := fun _ => True) (okp := fun _ => True) rfl (fun _ hk => hk) trivial (of_decide_eq_true (by first | (with_reducible assumption) | assumption)) (Nat.le_trans (Nat.mul_le_mul_right _ (of_decide_eq_true (by first | (with_reducible assumption) | assumption) : (l0_1.length : Int).toNat ≤ 281474976710656)) (by omega)) (Below.refl _ _) (Nat.le_refl _) ?_; intro v254 w29 ho30 hb hg_ hnew_; clear hg_ hnew_; (first | rw [← Ny253.out] at ho30 | (simp only [Int.reduceToNat] at ho30; rw [← Ny253.out] at ho30)); have n0_ := Aside0.mk (Kd.R_below (by exact upR HO_10.out) hb); have n1_ := Aside0.mk (Kd.R_lower ho30 (below_size (by repeat (first | (with_reducible first | exact HB.out | apply below_alloc | apply pw_below_drewN | apply below_drew1 | refine below_set ?_ GE245.out) | exact HB.out)))); have n2_ := Aside0.mk (blk_below (g := gb245) (o := .cells #[.int .i64 a0_0, .slice A0_1 l0_1.length c0_1, .int .i64 a0_2, .int .i64 a0_3, .int .i64 a0_4] 24 (0, 0)) (by (with_reducible repeat (first | refine blk_drewN ?_ _ | refine blk_drew ?_ | refine blk_alloc ?_ _)); exact BK245.out) hb); have n3_ := Aside0.mk (below_step (by repeat (first | (with_reducible first | exact HB.out | apply below_alloc | apply pw_below_drewN | apply below_drew1 | refine below_set ?_ GE245.out) | exact HB.out)) hb); clear HO_10; clear BK245; clear HB; have HO_10 := n0_; have HO255 := n1_; have BK245 := n2_; have HB := n3_; clear n0_ n1_ n2_ n3_; clear hb ho30)))
                  go_loopg [12, 13, 14] kj15 (fun kq v12 v13 v14 w' => ∃ (x11_3 : List Bool) (x12_3 : Int) (x13_3 : Int) (x14_3 : Int), v12 = .int .i64 x12_3 ∧ v13 = .int .i64 x13_3 ∧ v14 = .int .i64 x14_3 ∧ Aside0 (pandectlaw39_VoteOnce.l0 kq a1 l2 t246 t248 t250 x11_3 x12_3 x13_3 x14_3 a0_0 l0_1 a0_2 a0_3 a0_4 = some r) ∧ Aside0 (kq ≤ kj15) ∧ Aside0 (Kd.R (Kd.int .i64) 3 w' w.heap.size (fun _ => True) v251 t250) ∧ Aside0 (Kd.R Kd.bool 4 w' w.heap.size (fun _ => True) v254 x11_3) ∧ Aside0 (w'.heap[gb245]? = some (.cells #[.int .i64 a0_0, (.slice A0_1 l0_1.length c0_1), .int .i64 a0_2, .int .i64 a0_3, .int .i64 a0_4] 24 (0, 0))) ∧ Aside0 (Below w.heap.size w w'))
                  case atStart => exact ⟨(y253), (0), (0), (0), (by first | rfl | (simp; done) | (simp [*]; done)), (by first | rfl | (simp; done) | (simp [*]; done)), (by first | rfl | (simp; done) | (simp [*]; done)), H', ⟨Nat.le_refl _⟩, ⟨by exact upR HO_10.out⟩, ⟨by exact upR HO255.out⟩, ⟨by (with_reducible repeat (first | refine blk_drewN ?_ _ | refine blk_drew ?_ | refine blk_alloc ?_ _)); exact BK245.out⟩, ⟨by repeat (first | (with_reducible first | exact HB.out | apply below_alloc | apply pw_below_drewN | apply below_drew1 | refine below_set ?_ GE245.out) | exact HB.out)⟩⟩
                  case round =>
                    clear H'
                    try clear c1
                    try clear c2
                    try clear p2
                    try clear c4
                    try clear p6
                    try clear c9
                    try clear c14
                    try clear c19
                    try clear c19b0
                    try clear c20
                    try clear c20b0
                    try clear c21
                    try clear c21b0
                    try clear c21b1
                    try clear c25
                    try clear c26
                    try clear c26b0
                    try clear c26b1
                    try clear c27
                    try clear c27b0
                    try clear c27b1
                    try clear hcz10_0
                    try clear hcz10_1
                    try clear hcz10_2
                    try clear hcz10_3
                    try clear hcz10_4
                    try clear hcz12_0
                    try clear hcz12_1
                    try clear hcz12_2
                    try clear hcz12_3
                    try clear hcz12_4
                    try clear hcz17_0
                    try clear hcz17_1
                    try clear hcz17_2
                    try clear hcz17_3
                    try clear hcz17_4
                    try clear hcz23_0
                    try clear hcz23_1
                    try clear hcz23_2
                    try clear hcz23_3
                    try clear hcz23_4
                    try clear hcz28_0
                    try clear hcz28_1
                    try clear hcz28_2
                    try clear hcz28_3
                    try clear hcz28_4
                    try clear hfz10_0
                    try clear hfz10_1
                    try clear hfz10_2
                    try clear hfz10_3
                    try clear hfz10_4
                    try clear hfz12_0
                    try clear hfz12_1
                    try clear hfz12_2
                    try clear hfz12_3
                    try clear hfz12_4
                    try clear hfz17_0
                    try clear hfz17_1
                    try clear hfz17_2
                    try clear hfz17_3
                    try clear hfz17_4
                    try clear hfz23_0
                    try clear hfz23_1
                    try clear hfz23_2
                    try clear hfz23_3
                    try clear hfz23_4
                    try clear hfz28_0
                    try clear hfz28_1
                    try clear hfz28_2
                    try clear hfz28_3
                    try clear hfz28_4
                    try clear p2
                    try clear p6
                    obtain ⟨x11_3, x12_3, x13_3, x14_3, rfl, rfl, rfl, HA, HK3, HO_10, HO_11, BK245, HB⟩ := hrel
                    cases gk with
                    | zero => exact absurd HA.out (by simp [pandectlaw39_VoteOnce.l0])
                    | succ k3 =>
                      have H := HA.out
                      clear HA
                      simp only [pandectlaw39_VoteOnce.l0] at H
                      by_cases c31 : x14_3 < (l2.length : Int)
                      · rw [if_pos c31] at H
                        have c31b0 : decide (x14_3 < (l2.length : Int)) = true := decide_eq_true c31
                        clear c31
                        have HC32 := Aside0.mk H
                        clear H
                        go_upto_region 13 with (fail)
                        repeat (go_quiet (fail); go_upto_region 13 with (fail))
                        go_cut [82] (fun v82 wc => ∃ (kq : Nat) (x82_31 : Bool), v82 = .bool x82_31 ∧ Aside0 (pandectlaw39_VoteOnce.j3 kq a1 l2 t246 t248 t250 x11_3 x12_3 x13_3 x14_3 x82_31 a0_0 l0_1 a0_2 a0_3 a0_4 = some r) ∧ Aside0 (kq ≤ k3) ∧ Aside0 (Kd.R (Kd.int .i64) 3 wc w.heap.size (fun _ => True) v251 t250) ∧ Aside0 (Kd.R Kd.bool 4 wc w.heap.size (fun _ => True) v254 x11_3) ∧ Aside0 (wc.heap[gb245]? = some (.cells #[.int .i64 a0_0, (.slice A0_1 l0_1.length c0_1), .int .i64 a0_2, .int .i64 a0_3, .int .i64 a0_4] 24 (0, 0))) ∧ Aside0 (Below w.heap.size w wc))
                        case first =>
                          have H := HC32.out
                          clear HC32
                          by_cases c33 : x12_3 < (t250.length : Int)
                          · rw [if_pos c33] at H
                            have c33b0 : decide (x12_3 < (t250.length : Int)) = true := decide_eq_true c33
                            clear c33
                            (first | rw [c33b0] | (simp only [i64_w, i32_w]; rw [c33b0]) | skip)
                            by_cases c34 : 0 ≤ x12_3
                            · rw [if_pos c34] at H
                              have c34b0 : decide (0 ≤ x12_3) = true := decide_eq_true c34
                              clear c34
                              have H' := Aside0.mk H
                              clear H
                              obtain ⟨Ao35, co35, eo35⟩ := Kd.R_slice HO_10.out
                              subst eo35
                              have p256 : 0 ≤ (x12_3 : Int) := of_decide_eq_true (by first | (with_reducible assumption) | assumption)
                              have q256 : x12_3 < (t250.length : Int) := of_decide_eq_true (by first | (with_reducible assumption) | assumption)
                              obtain ⟨ad256, e256, hx256_0⟩ := Kd.at_int (Kd.R_reads' HO_10.out).2.2 x12_3 p256 q256
                              cases e256
                              replace p256 := eq_true p256
                              replace q256 := eq_true q256
                              go_wp2
                              repeat (go_quiet (fail); try go_wp2)
                              go_meet
                              case rel => exact ⟨_, (((rd t250 x12_3) == x14_3)), (by first | rfl | (simp; done) | (simp [*]; done)), H', ⟨by have := HJ4.out; have := HJ15.out; have := HK3.out; first | omega | exact Nat.le_refl _⟩, ⟨by exact upR HO_10.out⟩, ⟨by exact upR HO_11.out⟩, ⟨by (with_reducible repeat (first | refine blk_drewN ?_ _ | refine blk_drew ?_ | refine blk_alloc ?_ _)); exact BK245.out⟩, ⟨by repeat (first | (with_reducible first | exact HB.out | apply below_alloc | apply pw_below_drewN | apply below_drew1 | refine below_set ?_ GE245.out) | exact HB.out)⟩⟩
                            · rw [if_neg c34] at H
                              exact absurd H (by simp)
                          · rw [if_neg c33] at H
                            have c33b0 : decide (x12_3 < (t250.length : Int)) = false := decide_eq_false c33
                            clear c33
                            (first | rw [c33b0] | (simp only [i64_w, i32_w]; rw [c33b0]) | skip)
                            have H' := Aside0.mk H
                            clear H
                            obtain ⟨Ao36, co36, eo36⟩ := Kd.R_slice HO_10.out
                            subst eo36
                            go_wp2
                            repeat (go_quiet (fail); try go_wp2)
                            go_meet
                            case rel => exact ⟨_, (false), (by first | rfl | (simp; done) | (simp [*]; done)), H', ⟨by have := HJ4.out; have := HJ15.out; have := HK3.out; first | omega | exact Nat.le_refl _⟩, ⟨by exact upR HO_10.out⟩, ⟨by exact upR HO_11.out⟩, ⟨by (with_reducible repeat (first | refine blk_drewN ?_ _ | refine blk_drew ?_ | refine blk_alloc ?_ _)); exact BK245.out⟩, ⟨by repeat (first | (with_reducible first | exact HB.out | apply below_alloc | apply pw_below_drewN | apply below_drew1 | refine below_set ?_ GE245.out) | exact HB.out)⟩⟩
                        case rest =>
                          clear HC32
                          try clear c1
                          try clear c2
                          try clear p2
                          try clear q2
                          try clear hx2
                          try clear c3
                          try clear c4
                          try clear p6
                          try clear c9
                          try clear c14
                          try clear c19
                          try clear c19b0
                          try clear c20
                          try clear c20b0
                          try clear c21
                          try clear c21b0
                          try clear c21b1
                          try clear c25
                          try clear p25
                          try clear q25
                          try clear hx25
                          try clear c26
                          try clear c26b0
                          try clear c26b1
                          try clear c27
                          try clear c27b0
                          try clear c27b1
                          try clear c31
                          try clear c31b0
                          try clear c33
                          try clear c33b0
                          try clear c34
                          try clear c34b0
                          try clear hcz10_0
                          try clear hcz10_1
                          try clear hcz10_2
                          try clear hcz10_3
                          try clear hcz10_4
                          try clear hcz12_0
                          try clear hcz12_1
                          try clear hcz12_2
                          try clear hcz12_3
                          try clear hcz12_4
                          try clear hcz17_0
                          try clear hcz17_1
                          try clear hcz17_2
                          try clear hcz17_3
                          try clear hcz17_4
                          try clear hcz23_0
                          try clear hcz23_1
                          try clear hcz23_2
                          try clear hcz23_3
                          try clear hcz23_4
                          try clear hcz28_0
                          try clear hcz28_1
                          try clear hcz28_2
                          try clear hcz28_3
                          try clear hcz28_4
                          try clear hfz10_0
                          try clear hfz10_1
                          try clear hfz10_2
                          try clear hfz10_3
                          try clear hfz10_4
                          try clear hfz12_0
                          try clear hfz12_1
                          try clear hfz12_2
                          try clear hfz12_3
                          try clear hfz12_4
                          try clear hfz17_0
                          try clear hfz17_1
                          try clear hfz17_2
                          try clear hfz17_3
                          try clear hfz17_4
                          try clear hfz23_0
                          try clear hfz23_1
                          try clear hfz23_2
                          try clear hfz23_3
                          try clear hfz23_4
                          try clear hfz28_0
                          try clear hfz28_1
                          try clear hfz28_2
                          try clear hfz28_3
                          try clear hfz28_4
                          try clear hx256_0
                          try clear p2
                          try clear p256
                          try clear p6
                          try clear q256
                          obtain ⟨kq, x82_31, rfl, HA, HJ31, HO_10, HO_11, BK245, HB⟩ := hcut
                          cases kq with
                          | zero => exact absurd HA.out (by simp [pandectlaw39_VoteOnce.j3])
                          | succ kj31 =>
                            have H := HA.out
                            clear HA
                            simp only [pandectlaw39_VoteOnce.j3] at H
                            by_cases c37 : x82_31 = true
                            · subst c37
                              have H1 : (pandectlaw39_VoteOnce.l0 kj31 a1 l2 t246 t248 t250 x11_3 (wrap64 (x12_3 + 1)) x13_3 (wrap64 (x14_3 + 1)) a0_0 l0_1 a0_2 a0_3 a0_4) = some r := by rw [if_pos rfl] at H; exact H
                              clear H
                              have H := H1
                              clear H1
                              have H' := Aside0.mk H
                              clear H
                              go_wp2
                              repeat (go_quiet (fail); try go_wp2)
                              go_roundg kj31
                              case measure => have := HJ4.out; have := HJ15.out; have := HK3.out; have := HJ31.out; omega
                              case rel => exact ⟨(x11_3), (wrap64 (x12_3 + 1)), (x13_3), (wrap64 (x14_3 + 1)), (by first | rfl | (simp; done) | (simp [*]; done)), (by first | rfl | (simp; done) | (simp [*]; done)), (by first | rfl | (simp; done) | (simp [*]; done)), H', ⟨by have := HJ4.out; have := HJ15.out; have := HK3.out; have := HJ31.out; omega⟩, ⟨by exact upR HO_10.out⟩, ⟨by exact upR HO_11.out⟩, ⟨by (with_reducible repeat (first | refine blk_drewN ?_ _ | refine blk_drew ?_ | refine blk_alloc ?_ _)); exact BK245.out⟩, ⟨by repeat (first | (with_reducible first | exact HB.out | apply below_alloc | apply pw_below_drewN | apply below_drew1 | refine below_set ?_ GE245.out) | exact HB.out)⟩⟩
                            · replace c37 := Bool.eq_false_iff.mpr c37
                              subst c37
                              have H1 : (if 0 ≤ x14_3 then (if x14_3 < (l2.length : Int) then (if ((rd_T33 l2 x14_3).f0) < 0 then (pandectlaw39_VoteOnce.j4 kj31 a1 l2 t246 t248 t250 x11_3 x12_3 x13_3 x14_3 ((rd_T33 l2 x14_3).f0) true a0_0 l0_1 a0_2 a0_3 a0_4) else (if ((rd_T33 l2 x14_3).f0) ≥ (x11_3.length : Int) then (pandectlaw39_VoteOnce.j4 kj31 a1 l2 t246 t248 t250 x11_3 x12_3 x13_3 x14_3 ((rd_T33 l2 x14_3).f0) true a0_0 l0_1 a0_2 a0_3 a0_4) else (if 0 ≤ ((rd_T33 l2 x14_3).f0) then (if ((rd_T33 l2 x14_3).f0) < (x11_3.length : Int) then (if rdOf false x11_3 ((rd_T33 l2 x14_3).f0) = true then (pandectlaw39_VoteOnce.j4 kj31 a1 l2 t246 t248 t250 x11_3 x12_3 x13_3 x14_3 ((rd_T33 l2 x14_3).f0) true a0_0 l0_1 a0_2 a0_3 a0_4) else (if ((rd_T33 l2 x14_3).f1).toList = a1.toList then (pandectlaw39_VoteOnce.j4 kj31 a1 l2 t246 t248 t250 x11_3 x12_3 x13_3 x14_3 ((rd_T33 l2 x14_3).f0) (((rd_T33 l2 x14_3).f2) != a0_0) a0_0 l0_1 a0_2 a0_3 a0_4) else (pandectlaw39_VoteOnce.j4 kj31 a1 l2 t246 t248 t250 x11_3 x12_3 x13_3 x14_3 ((rd_T33 l2 x14_3).f0) true a0_0 l0_1 a0_2 a0_3 a0_4))) else (none)) else (none)))) else (none)) else (none)) = some r := by rw [if_neg (show ¬ (false = true) by decide)] at H; exact H
                              clear H
                              have H := H1
                              clear H1
                              by_cases c38 : 0 ≤ x14_3
                              · rw [if_pos c38] at H
                                have c38b0 : decide (0 ≤ x14_3) = true := decide_eq_true c38
                                clear c38
                                by_cases c39 : x14_3 < (l2.length : Int)
                                · rw [if_pos c39] at H
                                  have c39b0 : decide (x14_3 < (l2.length : Int)) = true := decide_eq_true c39
                                  clear c39
                                  have HC40 := Aside0.mk H
                                  clear H
                                  have p257 : 0 ≤ (x14_3 : Int) := of_decide_eq_true (by first | (with_reducible assumption) | assumption)
                                  have q257 : x14_3 < (l2.length : Int) := of_decide_eq_true (by first | (with_reducible assumption) | assumption)
                                  obtain ⟨ad257, A257_5, c257_5, A257_6, c257_6, e257, hx257_0, hx257_1, hx257_2, hx257_3, hx257_4, hx257_5, hx257_6, hl257_5, hi257_5, hl257_6, hi257_6⟩ := at_T33 HR2.out x14_3 p257 q257
                                  cases e257
                                  replace hx257_0 := (HB.out.cell (World.block_lt_of_cell? w _ hx257_0)).trans hx257_0
                                  replace hx257_1 := (HB.out.cell (World.block_lt_of_cell? w _ hx257_1)).trans hx257_1
                                  replace hx257_2 := (HB.out.cell (World.block_lt_of_cell? w _ hx257_2)).trans hx257_2
                                  replace hx257_3 := (HB.out.cell (World.block_lt_of_cell? w _ hx257_3)).trans hx257_3
                                  replace hx257_4 := (HB.out.cell (World.block_lt_of_cell? w _ hx257_4)).trans hx257_4
                                  replace hx257_5 := (HB.out.cell (World.block_lt_of_cell? w _ hx257_5)).trans hx257_5
                                  replace hx257_6 := (HB.out.cell (World.block_lt_of_cell? w _ hx257_6)).trans hx257_6
                                  have HR257_5 := Aside0.mk hi257_5
                                  have HC257_5 := Aside0.mk hl257_5
                                  clear hi257_5 hl257_5
                                  have HR257_6 := Aside0.mk hi257_6
                                  have HC257_6 := Aside0.mk hl257_6
                                  clear hi257_6 hl257_6
                                  replace p257 := eq_true p257
                                  replace q257 := eq_true q257
                                  go_upto_region 16 with (fail)
                                  repeat (go_quiet (fail); go_upto_region 16 with (fail))
                                  go_cut [122] (fun v122 wc => ∃ (kq : Nat) (x122_39 : Bool), v122 = .bool x122_39 ∧ Aside0 (pandectlaw39_VoteOnce.j4 kq a1 l2 t246 t248 t250 x11_3 x12_3 x13_3 x14_3 ((rd_T33 l2 x14_3).f0) x122_39 a0_0 l0_1 a0_2 a0_3 a0_4 = some r) ∧ Aside0 (kq ≤ kj31) ∧ Aside0 (Kd.R (Kd.int .i64) 3 wc w.heap.size (fun _ => True) v251 t250) ∧ Aside0 (Kd.R Kd.bool 4 wc w.heap.size (fun _ => True) v254 x11_3) ∧ Aside0 (wc.heap[gb245]? = some (.cells #[.int .i64 a0_0, (.slice A0_1 l0_1.length c0_1), .int .i64 a0_2, .int .i64 a0_3, .int .i64 a0_4] 24 (0, 0))) ∧ Aside0 (Below w.heap.size w wc))
                                  case first =>
                                    have H := HC40.out
                                    clear HC40
                                    by_cases c41 : ((rd_T33 l2 x14_3).f0) < 0
                                    · rw [if_pos c41] at H
                                      have c41b0 : decide (((rd_T33 l2 x14_3).f0) < 0) = true := decide_eq_true c41
                                      clear c41
                                      (first | rw [c41b0] | (simp only [i64_w, i32_w]; rw [c41b0]) | skip)
                                      have H' := Aside0.mk H
                                      clear H
                                      go_wp2
                                      repeat (go_quiet (fail); try go_wp2)
                                      go_meet
                                      case rel => exact ⟨_, (true), (by first | rfl | (simp; done) | (simp [*]; done)), H', ⟨by have := HJ4.out; have := HJ15.out; have := HK3.out; have := HJ31.out; first | omega | exact Nat.le_refl _⟩, ⟨by exact upR HO_10.out⟩, ⟨by exact upR HO_11.out⟩, ⟨by (with_reducible repeat (first | refine blk_drewN ?_ _ | refine blk_drew ?_ | refine blk_alloc ?_ _)); exact BK245.out⟩, ⟨by repeat (first | (with_reducible first | exact HB.out | apply below_alloc | apply pw_below_drewN | apply below_drew1 | refine below_set ?_ GE245.out) | exact HB.out)⟩⟩
                                    · rw [if_neg c41] at H
                                      have c41b0 : decide (((rd_T33 l2 x14_3).f0) < 0) = false := decide_eq_false c41
                                      clear c41
                                      (first | rw [c41b0] | (simp only [i64_w, i32_w]; rw [c41b0]) | skip)
                                      by_cases c42 : ((rd_T33 l2 x14_3).f0) ≥ (x11_3.length : Int)
                                      · rw [if_pos c42] at H
                                        have c42b0 : decide ((x11_3.length : Int) ≤ ((rd_T33 l2 x14_3).f0)) = true := decide_eq_true c42
                                        clear c42
                                        have H' := Aside0.mk H
                                        clear H
                                        obtain ⟨Ao43, co43, eo43⟩ := Kd.R_slice HO_11.out
                                        subst eo43
                                        go_wp2
                                        repeat (go_quiet (fail); try go_wp2)
                                        go_meet
                                        case rel => exact ⟨_, (true), (by first | rfl | (simp; done) | (simp [*]; done)), H', ⟨by have := HJ4.out; have := HJ15.out; have := HK3.out; have := HJ31.out; first | omega | exact Nat.le_refl _⟩, ⟨by exact upR HO_10.out⟩, ⟨by exact upR HO_11.out⟩, ⟨by (with_reducible repeat (first | refine blk_drewN ?_ _ | refine blk_drew ?_ | refine blk_alloc ?_ _)); exact BK245.out⟩, ⟨by repeat (first | (with_reducible first | exact HB.out | apply below_alloc | apply pw_below_drewN | apply below_drew1 | refine below_set ?_ GE245.out) | exact HB.out)⟩⟩
                                      · rw [if_neg c42] at H
                                        have c42b0 : decide ((x11_3.length : Int) ≤ ((rd_T33 l2 x14_3).f0)) = false := decide_eq_false c42
                                        clear c42
                                        by_cases c44 : 0 ≤ ((rd_T33 l2 x14_3).f0)
                                        · rw [if_pos c44] at H
                                          have c44b0 : decide (0 ≤ ((rd_T33 l2 x14_3).f0)) = true := decide_eq_true c44
                                          clear c44
                                          by_cases c45 : ((rd_T33 l2 x14_3).f0) < (x11_3.length : Int)
                                          · rw [if_pos c45] at H
                                            have c45b0 : decide (((rd_T33 l2 x14_3).f0) < (x11_3.length : Int)) = true := decide_eq_true c45
                                            clear c45
                                            obtain ⟨bq46, hbq46⟩ : ∃ b_ : Bool, b_ = (rdOf false x11_3 ((rd_T33 l2 x14_3).f0)) := ⟨_, rfl⟩
                                            replace H : (if bq46 = true then (pandectlaw39_VoteOnce.j4 kj31 a1 l2 t246 t248 t250 x11_3 x12_3 x13_3 x14_3 ((rd_T33 l2 x14_3).f0) true a0_0 l0_1 a0_2 a0_3 a0_4) else (if ((rd_T33 l2 x14_3).f1).toList = a1.toList then (pandectlaw39_VoteOnce.j4 kj31 a1 l2 t246 t248 t250 x11_3 x12_3 x13_3 x14_3 ((rd_T33 l2 x14_3).f0) (((rd_T33 l2 x14_3).f2) != a0_0) a0_0 l0_1 a0_2 a0_3 a0_4) else (pandectlaw39_VoteOnce.j4 kj31 a1 l2 t246 t248 t250 x11_3 x12_3 x13_3 x14_3 ((rd_T33 l2 x14_3).f0) true a0_0 l0_1 a0_2 a0_3 a0_4))) = some r := by rw [← hbq46] at H; exact H
                                            have Nbq46 := Aside0.mk hbq46
                                            clear hbq46
                                            by_cases c47 : bq46 = true
                                            · subst c47
                                              have H1 : (pandectlaw39_VoteOnce.j4 kj31 a1 l2 t246 t248 t250 x11_3 x12_3 x13_3 x14_3 ((rd_T33 l2 x14_3).f0) true a0_0 l0_1 a0_2 a0_3 a0_4) = some r := by rw [if_pos rfl] at H; exact H
                                              clear H
                                              have H := H1
                                              clear H1
                                              have H' := Aside0.mk H
                                              clear H
                                              obtain ⟨Ao48, co48, eo48⟩ := Kd.R_slice HO_11.out
                                              subst eo48
                                              have p258 : 0 ≤ (((rd_T33 l2 x14_3).f0) : Int) := of_decide_eq_true (by first | (with_reducible assumption) | assumption)
                                              have q258 : ((rd_T33 l2 x14_3).f0) < (x11_3.length : Int) := of_decide_eq_true (by first | (with_reducible assumption) | assumption)
                                              obtain ⟨ad258, e258, hx258_0⟩ := Kd.at_bool (Kd.R_reads' HO_11.out).2.2 ((rd_T33 l2 x14_3).f0) p258 q258
                                              (try rw [← Nbq46.out] at hx258_0)
                                              cases e258
                                              replace p258 := eq_true p258
                                              replace q258 := eq_true q258
                                              go_wp2
                                              repeat (go_quiet (fail); try go_wp2)
                                              go_meet
                                              case rel => exact ⟨_, (true), (by first | rfl | (simp; done) | (simp [*]; done)), H', ⟨by have := HJ4.out; have := HJ15.out; have := HK3.out; have := HJ31.out; first | omega | exact Nat.le_refl _⟩, ⟨by exact upR HO_10.out⟩, ⟨by exact upR HO_11.out⟩, ⟨by (with_reducible repeat (first | refine blk_drewN ?_ _ | refine blk_drew ?_ | refine blk_alloc ?_ _)); exact BK245.out⟩, ⟨by repeat (first | (with_reducible first | exact HB.out | apply below_alloc | apply pw_below_drewN | apply below_drew1 | refine below_set ?_ GE245.out) | exact HB.out)⟩⟩
                                            · replace c47 := Bool.eq_false_iff.mpr c47
                                              subst c47
                                              have H1 : (if ((rd_T33 l2 x14_3).f1).toList = a1.toList then (pandectlaw39_VoteOnce.j4 kj31 a1 l2 t246 t248 t250 x11_3 x12_3 x13_3 x14_3 ((rd_T33 l2 x14_3).f0) (((rd_T33 l2 x14_3).f2) != a0_0) a0_0 l0_1 a0_2 a0_3 a0_4) else (pandectlaw39_VoteOnce.j4 kj31 a1 l2 t246 t248 t250 x11_3 x12_3 x13_3 x14_3 ((rd_T33 l2 x14_3).f0) true a0_0 l0_1 a0_2 a0_3 a0_4)) = some r := by rw [if_neg (show ¬ (false = true) by decide)] at H; exact H
                                              clear H
                                              have H := H1
                                              clear H1
                                              by_cases c49 : ((rd_T33 l2 x14_3).f1).toList = a1.toList
                                              · rw [if_pos c49] at H
                                                have c49b0 : (((rd_T33 l2 x14_3).f1).toList == a1.toList) = true := beq_iff_eq.mpr c49
                                                have c49b1 : (((rd_T33 l2 x14_3).f1).toList != a1.toList) = false := bne_eq_false_iff_eq.mpr c49
                                                clear c49
                                                have H' := Aside0.mk H
                                                clear H
                                                obtain ⟨Ao50, co50, eo50⟩ := Kd.R_slice HO_11.out
                                                subst eo50
                                                have p258 : 0 ≤ (((rd_T33 l2 x14_3).f0) : Int) := of_decide_eq_true (by first | (with_reducible assumption) | assumption)
                                                have q258 : ((rd_T33 l2 x14_3).f0) < (x11_3.length : Int) := of_decide_eq_true (by first | (with_reducible assumption) | assumption)
                                                obtain ⟨ad258, e258, hx258_0⟩ := Kd.at_bool (Kd.R_reads' HO_11.out).2.2 ((rd_T33 l2 x14_3).f0) p258 q258
                                                (try rw [← Nbq46.out] at hx258_0)
                                                cases e258
                                                replace p258 := eq_true p258
                                                replace q258 := eq_true q258
                                                have p259 : 0 ≤ (x14_3 : Int) := of_decide_eq_true (by first | (with_reducible assumption) | assumption)
                                                have q259 : x14_3 < (l2.length : Int) := of_decide_eq_true (by first | (with_reducible assumption) | assumption)
                                                obtain ⟨ad259, A259_5, c259_5, A259_6, c259_6, e259, hx259_0, hx259_1, hx259_2, hx259_3, hx259_4, hx259_5, hx259_6, hl259_5, hi259_5, hl259_6, hi259_6⟩ := at_T33 HR2.out x14_3 p259 q259
                                                (try rw [← Nbq46.out] at hx259_3)
                                                obtain rfl : ad257 = ad259 := (by injection e259)
                                                replace hx259_0 := (HB.out.cell (World.block_lt_of_cell? w _ hx259_0)).trans hx259_0
                                                replace hx259_1 := (HB.out.cell (World.block_lt_of_cell? w _ hx259_1)).trans hx259_1
                                                replace hx259_2 := (HB.out.cell (World.block_lt_of_cell? w _ hx259_2)).trans hx259_2
                                                replace hx259_3 := (HB.out.cell (World.block_lt_of_cell? w _ hx259_3)).trans hx259_3
                                                replace hx259_4 := (HB.out.cell (World.block_lt_of_cell? w _ hx259_4)).trans hx259_4
                                                replace hx259_5 := (HB.out.cell (World.block_lt_of_cell? w _ hx259_5)).trans hx259_5
                                                replace hx259_6 := (HB.out.cell (World.block_lt_of_cell? w _ hx259_6)).trans hx259_6
                                                have HR259_5 := Aside0.mk hi259_5
                                                have HC259_5 := Aside0.mk hl259_5
                                                clear hi259_5 hl259_5
                                                have HR259_6 := Aside0.mk hi259_6
                                                have HC259_6 := Aside0.mk hl259_6
                                                clear hi259_6 hl259_6
                                                replace p259 := eq_true p259
                                                replace q259 := eq_true q259
                                                have p260 : 0 ≤ (x14_3 : Int) := of_decide_eq_true (by first | (with_reducible assumption) | assumption)
                                                have q260 : x14_3 < (l2.length : Int) := of_decide_eq_true (by first | (with_reducible assumption) | assumption)
                                                obtain ⟨ad260, A260_5, c260_5, A260_6, c260_6, e260, hx260_0, hx260_1, hx260_2, hx260_3, hx260_4, hx260_5, hx260_6, hl260_5, hi260_5, hl260_6, hi260_6⟩ := at_T33 HR2.out x14_3 p260 q260
                                                (try rw [← Nbq46.out] at hx260_3)
                                                obtain rfl : ad257 = ad260 := (by injection e260)
                                                replace hx260_0 := (HB.out.cell (World.block_lt_of_cell? w _ hx260_0)).trans hx260_0
                                                replace hx260_1 := (HB.out.cell (World.block_lt_of_cell? w _ hx260_1)).trans hx260_1
                                                replace hx260_2 := (HB.out.cell (World.block_lt_of_cell? w _ hx260_2)).trans hx260_2
                                                replace hx260_3 := (HB.out.cell (World.block_lt_of_cell? w _ hx260_3)).trans hx260_3
                                                replace hx260_4 := (HB.out.cell (World.block_lt_of_cell? w _ hx260_4)).trans hx260_4
                                                replace hx260_5 := (HB.out.cell (World.block_lt_of_cell? w _ hx260_5)).trans hx260_5
                                                replace hx260_6 := (HB.out.cell (World.block_lt_of_cell? w _ hx260_6)).trans hx260_6
                                                have HR260_5 := Aside0.mk hi260_5
                                                have HC260_5 := Aside0.mk hl260_5
                                                clear hi260_5 hl260_5
                                                have HR260_6 := Aside0.mk hi260_6
                                                have HC260_6 := Aside0.mk hl260_6
                                                clear hi260_6 hl260_6
                                                replace p260 := eq_true p260
                                                replace q260 := eq_true q260
                                                have ea_ := Option.some.inj (hx259_5.symm.trans hx260_5)
                                                injection ea_ with ea_ en_ ec_
                                                subst ea_
                                                subst ec_
                                                clear en_
                                                have ea_ := Option.some.inj (hx259_6.symm.trans hx260_6)
                                                injection ea_ with ea_ en_ ec_
                                                subst ea_
                                                subst ec_
                                                clear en_
                                                have hcz51_0 : wc.cell? ⟨gb245, 0, none⟩ = some (.int .i64 a0_0) := (blk_cell BK245.out 0).trans rfl
                                                have hcz51_1 : wc.cell? ⟨gb245, 1, none⟩ = some (.slice A0_1 l0_1.length c0_1) := (blk_cell BK245.out 1).trans rfl
                                                have hcz51_2 : wc.cell? ⟨gb245, 2, none⟩ = some (.int .i64 a0_2) := (blk_cell BK245.out 2).trans rfl
                                                have hcz51_3 : wc.cell? ⟨gb245, 3, none⟩ = some (.int .i64 a0_3) := (blk_cell BK245.out 3).trans rfl
                                                have hcz51_4 : wc.cell? ⟨gb245, 4, none⟩ = some (.int .i64 a0_4) := (blk_cell BK245.out 4).trans rfl
                                                have hfz51_0 := blk_frozen BK245.out 0
                                                have hfz51_1 := blk_frozen BK245.out 1
                                                have hfz51_2 := blk_frozen BK245.out 2
                                                have hfz51_3 := blk_frozen BK245.out 3
                                                have hfz51_4 := blk_frozen BK245.out 4
                                                go_wp2
                                                repeat (go_quiet (fail); try go_wp2)
                                                go_meet
                                                case rel => exact ⟨_, ((((rd_T33 l2 x14_3).f2) != a0_0)), (by first | rfl | (simp; done) | (simp [*]; done)), H', ⟨by have := HJ4.out; have := HJ15.out; have := HK3.out; have := HJ31.out; first | omega | exact Nat.le_refl _⟩, ⟨by exact upR HO_10.out⟩, ⟨by exact upR HO_11.out⟩, ⟨by (with_reducible repeat (first | refine blk_drewN ?_ _ | refine blk_drew ?_ | refine blk_alloc ?_ _)); exact BK245.out⟩, ⟨by repeat (first | (with_reducible first | exact HB.out | apply below_alloc | apply pw_below_drewN | apply below_drew1 | refine below_set ?_ GE245.out) | exact HB.out)⟩⟩
                                              · rw [if_neg c49] at H
                                                have c49b0 : (((rd_T33 l2 x14_3).f1).toList == a1.toList) = false := beq_eq_false_iff_ne.mpr c49
                                                have c49b1 : (((rd_T33 l2 x14_3).f1).toList != a1.toList) = true := bne_iff_ne.mpr c49
                                                have H' := Aside0.mk H
                                                clear H
                                                obtain ⟨Ao52, co52, eo52⟩ := Kd.R_slice HO_11.out
                                                subst eo52
                                                have p258 : 0 ≤ (((rd_T33 l2 x14_3).f0) : Int) := of_decide_eq_true (by first | (with_reducible assumption) | assumption)
                                                have q258 : ((rd_T33 l2 x14_3).f0) < (x11_3.length : Int) := of_decide_eq_true (by first | (with_reducible assumption) | assumption)
                                                obtain ⟨ad258, e258, hx258_0⟩ := Kd.at_bool (Kd.R_reads' HO_11.out).2.2 ((rd_T33 l2 x14_3).f0) p258 q258
                                                (try rw [← Nbq46.out] at hx258_0)
                                                cases e258
                                                replace p258 := eq_true p258
                                                replace q258 := eq_true q258
                                                have p259 : 0 ≤ (x14_3 : Int) := of_decide_eq_true (by first | (with_reducible assumption) | assumption)
                                                have q259 : x14_3 < (l2.length : Int) := of_decide_eq_true (by first | (with_reducible assumption) | assumption)
                                                obtain ⟨ad259, A259_5, c259_5, A259_6, c259_6, e259, hx259_0, hx259_1, hx259_2, hx259_3, hx259_4, hx259_5, hx259_6, hl259_5, hi259_5, hl259_6, hi259_6⟩ := at_T33 HR2.out x14_3 p259 q259
                                                (try rw [← Nbq46.out] at hx259_3)
                                                obtain rfl : ad257 = ad259 := (by injection e259)
                                                replace hx259_0 := (HB.out.cell (World.block_lt_of_cell? w _ hx259_0)).trans hx259_0
                                                replace hx259_1 := (HB.out.cell (World.block_lt_of_cell? w _ hx259_1)).trans hx259_1
                                                replace hx259_2 := (HB.out.cell (World.block_lt_of_cell? w _ hx259_2)).trans hx259_2
                                                replace hx259_3 := (HB.out.cell (World.block_lt_of_cell? w _ hx259_3)).trans hx259_3
                                                replace hx259_4 := (HB.out.cell (World.block_lt_of_cell? w _ hx259_4)).trans hx259_4
                                                replace hx259_5 := (HB.out.cell (World.block_lt_of_cell? w _ hx259_5)).trans hx259_5
                                                replace hx259_6 := (HB.out.cell (World.block_lt_of_cell? w _ hx259_6)).trans hx259_6
                                                have HR259_5 := Aside0.mk hi259_5
                                                have HC259_5 := Aside0.mk hl259_5
                                                clear hi259_5 hl259_5
                                                have HR259_6 := Aside0.mk hi259_6
                                                have HC259_6 := Aside0.mk hl259_6
                                                clear hi259_6 hl259_6
                                                replace p259 := eq_true p259
                                                replace q259 := eq_true q259
                                                go_wp2
                                                repeat (go_quiet (fail); try go_wp2)
                                                go_meet
                                                case rel => exact ⟨_, (true), (by first | rfl | (simp; done) | (simp [*]; done)), H', ⟨by have := HJ4.out; have := HJ15.out; have := HK3.out; have := HJ31.out; first | omega | exact Nat.le_refl _⟩, ⟨by exact upR HO_10.out⟩, ⟨by exact upR HO_11.out⟩, ⟨by (with_reducible repeat (first | refine blk_drewN ?_ _ | refine blk_drew ?_ | refine blk_alloc ?_ _)); exact BK245.out⟩, ⟨by repeat (first | (with_reducible first | exact HB.out | apply below_alloc | apply pw_below_drewN | apply below_drew1 | refine below_set ?_ GE245.out) | exact HB.out)⟩⟩
                                          · rw [if_neg c45] at H
                                            exact absurd H (by simp)
                                        · rw [if_neg c44] at H
                                          exact absurd H (by simp)
                                  case rest =>
                                    clear HC40
                                    try clear c1
                                    try clear c2
                                    try clear p2
                                    try clear q2
                                    try clear hx2
                                    try clear c3
                                    try clear c4
                                    try clear q4
                                    try clear p6
                                    try clear c9
                                    try clear c14
                                    try clear c19
                                    try clear c19b0
                                    try clear c20
                                    try clear c20b0
                                    try clear c21
                                    try clear c21b0
                                    try clear c21b1
                                    try clear c25
                                    try clear p25
                                    try clear q25
                                    try clear hx25
                                    try clear c26
                                    try clear c26b0
                                    try clear c26b1
                                    try clear p26
                                    try clear q26
                                    try clear hx26
                                    try clear c27
                                    try clear c27b0
                                    try clear c27b1
                                    try clear c31
                                    try clear c31b0
                                    try clear c33
                                    try clear c33b0
                                    try clear c34
                                    try clear c34b0
                                    try clear c37
                                    try clear c38
                                    try clear c38b0
                                    try clear c39
                                    try clear c39b0
                                    try clear c41
                                    try clear c41b0
                                    try clear c42
                                    try clear c42b0
                                    try clear c44
                                    try clear c44b0
                                    try clear c45
                                    try clear c45b0
                                    try clear q46
                                    try clear c47
                                    try clear c49
                                    try clear c49b0
                                    try clear c49b1
                                    try clear hcz10_0
                                    try clear hcz10_1
                                    try clear hcz10_2
                                    try clear hcz10_3
                                    try clear hcz10_4
                                    try clear hcz12_0
                                    try clear hcz12_1
                                    try clear hcz12_2
                                    try clear hcz12_3
                                    try clear hcz12_4
                                    try clear hcz17_0
                                    try clear hcz17_1
                                    try clear hcz17_2
                                    try clear hcz17_3
                                    try clear hcz17_4
                                    try clear hcz23_0
                                    try clear hcz23_1
                                    try clear hcz23_2
                                    try clear hcz23_3
                                    try clear hcz23_4
                                    try clear hcz28_0
                                    try clear hcz28_1
                                    try clear hcz28_2
                                    try clear hcz28_3
                                    try clear hcz28_4
                                    try clear hcz51_0
                                    try clear hcz51_1
                                    try clear hcz51_2
                                    try clear hcz51_3
                                    try clear hcz51_4
                                    try clear hfz10_0
                                    try clear hfz10_1
                                    try clear hfz10_2
                                    try clear hfz10_3
                                    try clear hfz10_4
                                    try clear hfz12_0
                                    try clear hfz12_1
                                    try clear hfz12_2
                                    try clear hfz12_3
                                    try clear hfz12_4
                                    try clear hfz17_0
                                    try clear hfz17_1
                                    try clear hfz17_2
                                    try clear hfz17_3
                                    try clear hfz17_4
                                    try clear hfz23_0
                                    try clear hfz23_1
                                    try clear hfz23_2
                                    try clear hfz23_3
                                    try clear hfz23_4
                                    try clear hfz28_0
                                    try clear hfz28_1
                                    try clear hfz28_2
                                    try clear hfz28_3
                                    try clear hfz28_4
                                    try clear hfz51_0
                                    try clear hfz51_1
                                    try clear hfz51_2
                                    try clear hfz51_3
                                    try clear hfz51_4
                                    try clear hx256_0
                                    try clear hx257_0
                                    try clear hx257_1
                                    try clear hx257_2
                                    try clear hx257_3
                                    try clear hx257_4
                                    try clear hx257_5
                                    try clear hx257_6
                                    try clear hx258_0
                                    try clear hx259_0
                                    try clear hx259_1
                                    try clear hx259_2
                                    try clear hx259_3
                                    try clear hx259_4
                                    try clear hx259_5
                                    try clear hx259_6
                                    try clear hx260_0
                                    try clear hx260_1
                                    try clear hx260_2
                                    try clear hx260_3
                                    try clear hx260_4
                                    try clear hx260_5
                                    try clear hx260_6
                                    try clear p2
                                    try clear p25
                                    try clear p256
                                    try clear p257
                                    try clear p258
                                    try clear p259
                                    try clear p260
                                    try clear p6
                                    try clear q2
                                    try clear q25
                                    try clear q256
                                    try clear q257
                                    try clear q258
                                    try clear q259
                                    try clear q260
                                    obtain ⟨kq, x122_39, rfl, HA, HJ39, HO_10, HO_11, BK245, HB⟩ := hcut
                                    cases kq with
                                    | zero => exact absurd HA.out (by simp [pandectlaw39_VoteOnce.j4])
                                    | succ kj39 =>
                                      have H := HA.out
                                      clear HA
                                      simp only [pandectlaw39_VoteOnce.j4] at H
                                      by_cases c53 : x122_39 = true
                                      · subst c53
                                        have H1 : (some false) = some r := by rw [if_pos rfl] at H; exact H
                                        clear H
                                        have H := H1
                                        clear H1
                                        obtain rfl := Option.some.inj H
                                        go_wp2
                                        repeat (go_quiet (fail); try go_wp2)
                                        go_ret
                                        exact ⟨by first | rfl | (simp [errW_none, errW_some] <;> rfl) | (simp [*, errW_none, errW_some] <;> rfl), by repeat (first | (with_reducible first | exact HB.out | apply below_alloc | apply pw_below_drewN | apply below_drew1 | refine below_set ?_ GE245.out) | exact HB.out)⟩
                                      · replace c53 := Bool.eq_false_iff.mpr c53
                                        subst c53
                                        have H1 : (if 0 ≤ ((rd_T33 l2 x14_3).f0) then (if ((rd_T33 l2 x14_3).f0) < (x11_3.length : Int) then ((some (x11_3.set (((rd_T33 l2 x14_3).f0) : Int).toNat true : List Bool)).bind fun y261 => (if 0 ≤ x14_3 then (if x14_3 < (l2.length : Int) then (if (rd_T33 l2 x14_3).f3 = true then (pandectlaw39_VoteOnce.l0 kj39 a1 l2 t246 t248 t250 y261 x12_3 (wrap64 (x13_3 + 1)) (wrap64 (x14_3 + 1)) a0_0 l0_1 a0_2 a0_3 a0_4) else (pandectlaw39_VoteOnce.l0 kj39 a1 l2 t246 t248 t250 y261 x12_3 x13_3 (wrap64 (x14_3 + 1)) a0_0 l0_1 a0_2 a0_3 a0_4)) else (none)) else (none))) else (none)) else (none)) = some r := by rw [if_neg (show ¬ (false = true) by decide)] at H; exact H
                                        clear H
                                        have H := H1
                                        clear H1
                                        by_cases c54 : 0 ≤ ((rd_T33 l2 x14_3).f0)
                                        · rw [if_pos c54] at H
                                          have c54b0 : decide (0 ≤ ((rd_T33 l2 x14_3).f0)) = true := decide_eq_true c54
                                          clear c54
                                          by_cases c55 : ((rd_T33 l2 x14_3).f0) < (x11_3.length : Int)
                                          · rw [if_pos c55] at H
                                            have c55b0 : decide (((rd_T33 l2 x14_3).f0) < (x11_3.length : Int)) = true := decide_eq_true c55
                                            clear c55
                                            obtain ⟨y261, hy261⟩ : ∃ y_ : List Bool, y_ = (x11_3.set (((rd_T33 l2 x14_3).f0) : Int).toNat true) := ⟨_, rfl⟩
                                            replace H : (if 0 ≤ x14_3 then (if x14_3 < (l2.length : Int) then (if (rd_T33 l2 x14_3).f3 = true then (pandectlaw39_VoteOnce.l0 kj39 a1 l2 t246 t248 t250 y261 x12_3 (wrap64 (x13_3 + 1)) (wrap64 (x14_3 + 1)) a0_0 l0_1 a0_2 a0_3 a0_4) else (pandectlaw39_VoteOnce.l0 kj39 a1 l2 t246 t248 t250 y261 x12_3 x13_3 (wrap64 (x14_3 + 1)) a0_0 l0_1 a0_2 a0_3 a0_4)) else (none)) else (none)) = some r := by first | (rw [hy261]; with_reducible exact H) | (have H2_ := (Option.bind_some _ _).symm.trans H; rw [hy261]; with_reducible exact H2_) | (have H2_ := (Option.bind_some _ _).symm.trans H; with_reducible exact H2_) | with_reducible exact H | (rw [hy261]; exact H) | exact H
                                            have Ny261 := Aside0.mk hy261
                                            clear hy261
                                            by_cases c57 : 0 ≤ x14_3
                                            · rw [if_pos c57] at H
                                              have c57b0 : decide (0 ≤ x14_3) = true := decide_eq_true c57
                                              clear c57
                                              by_cases c58 : x14_3 < (l2.length : Int)
                                              · rw [if_pos c58] at H
                                                have c58b0 : decide (x14_3 < (l2.length : Int)) = true := decide_eq_true c58
                                                clear c58
                                                obtain ⟨bq59, hbq59⟩ : ∃ b_ : Bool, b_ = ((rd_T33 l2 x14_3).f3) := ⟨_, rfl⟩
                                                replace H : (if bq59 = true then (pandectlaw39_VoteOnce.l0 kj39 a1 l2 t246 t248 t250 y261 x12_3 (wrap64 (x13_3 + 1)) (wrap64 (x14_3 + 1)) a0_0 l0_1 a0_2 a0_3 a0_4) else (pandectlaw39_VoteOnce.l0 kj39 a1 l2 t246 t248 t250 y261 x12_3 x13_3 (wrap64 (x14_3 + 1)) a0_0 l0_1 a0_2 a0_3 a0_4)) = some r := by rw [← hbq59] at H; exact H
                                                have Nbq59 := Aside0.mk hbq59
                                                clear hbq59
                                                by_cases c60 : bq59 = true
                                                · subst c60
                                                  have H1 : (pandectlaw39_VoteOnce.l0 kj39 a1 l2 t246 t248 t250 y261 x12_3 (wrap64 (x13_3 + 1)) (wrap64 (x14_3 + 1)) a0_0 l0_1 a0_2 a0_3 a0_4) = some r := by rw [if_pos rfl] at H; exact H
                                                  clear H
                                                  have H := H1
                                                  clear H1
                                                  have H' := Aside0.mk H
                                                  clear H
                                                  have p56 : 0 ≤ (((rd_T33 l2 x14_3).f0) : Int) := of_decide_eq_true (by first | (with_reducible assumption) | assumption)
                                                  have q56 : (((rd_T33 l2 x14_3).f0) : Int) < ((x11_3.length : Int) : Int) := of_decide_eq_true (by first | (with_reducible assumption) | assumption)
                                                  obtain ⟨go56, co56, eo56, gb56, gl56, cl56, HG56⟩ := Kd.R_form HO_11.out (by omega)
                                                  (first | cases eo56 | (injection eo56 with ea_ en_ ec_; (first | subst ea_ | (injection ea_ with ea_; subst ea_)); subst ec_; clear en_))
                                                  have GB56 := Aside0.mk gb56
                                                  have GG56 := Aside0.mk HG56
                                                  clear gb56 gl56 HG56
                                                  obtain ⟨hx56_0, hf56_0⟩ := Kd.R_celln false HO_11.out (((rd_T33 l2 x14_3).f0) : Int) p56 q56
                                                  replace p56 := eq_true p56
                                                  replace q56 := eq_true q56
                                                  have HP61 := Kd.R_putg HO_11.out (((rd_T33 l2 x14_3).f0) : Int) true
                                                  go_wp2_with (first | ((with_reducible refine gate_store (t := 4) (p := 125) rfl ?_); (try (rw [drewN_self wc]; generalize hq_ : World.drewN wc _ = wc; have n0_ := Aside0.mk (Kd.R_at hq_ HO_10.out); have n1_ := Aside0.mk (Kd.R_at hq_ HO_11.out); have n2_ := Aside0.mk (blk_at hq_ BK245.out); have n3_ := Aside0.mk (below_at hq_ HB.out); clear hq_ HO_10 HO_11 BK245 HB; have HO_10 := n0_; have HO_11 := n1_; have BK245 := n2_; have HB := n3_; clear n0_ n1_ n2_ n3_; (try (have HP61 := Kd.R_putg HO_11.out (((rd_T33 l2 x14_3).f0) : Int) true)))); refine store_event (t := 4) (p := 125) (v := ?vo_w62) (w1 := (wc.setCell ⟨go56, (((rd_T33 l2 x14_3).f0) : Int).toNat, none⟩ (.bool true))) ?hg ?ho ?hn ?hr ?_; (case ho => rfl); (case hg => rfl); (case hn => rfl); (case hr => first | (go_simp; done) | (go_simp; rfl)); intro w62 hw; have hg : wc.grownBy w62 (some go56) := (by rw [hw]; exact HP61.2); have hp_ : Kd.R Kd.bool 4 w62 w.heap.size (fun _ => True) (.slice (some ⟨go56, 0, none⟩) x11_3.length co56) y261 := (by rw [hw, Ny261.out]; exact HP61.1); clear HP61; have n0_ := Aside0.mk (Kd.R_over' (v := (.slice (some ⟨go56, 0, none⟩) x11_3.length co56)) (by exact upR HO_10.out) (Kd.R_typed HO_11.out) (by decide) hg); have n1_ := Aside0.mk (hp_); have n2_ := Aside0.mk (blk_grown (g := gb245) (o := .cells #[.int .i64 a0_0, .slice A0_1 l0_1.length c0_1, .int .i64 a0_2, .int .i64 a0_3, .int .i64 a0_4] 24 (0, 0)) (by (with_reducible repeat (first | refine blk_drewN ?_ _ | refine blk_drew ?_ | refine blk_alloc ?_ _)); exact BK245.out) hg (Kd.R_ne HO_11.out BK245.out (by decide))); have n3_ := Aside0.mk ((by rw [hw]; exact below_set (HB.out) GB56.out : Below w.heap.size w w62)); clear HO_10; clear HO_11; clear BK245; clear HB; have HO_10 := n0_; have HO_11 := n1_; have BK245 := n2_; have HB := n3_; clear n0_ n1_ n2_ n3_; clear hg hw hp_; have p262 : 0 ≤ (x14_3 : Int) := of_decide_eq_true (by first | (with_reducible assumption) | assumption); have q262 : x14_3 < (l2.length : Int) := of_decide_eq_true (by first | (with_reducible assumption) | assumption); obtain ⟨ad262, A262_5, c262_5, A262_6, c262_6, e262, hx262_0, hx262_1, hx262_2, hx262_3, hx262_4, hx262_5, hx262_6, hl262_5, hi262_5, hl262_6, hi262_6⟩ := at_T33 HR2.out x14_3 p262 q262; (try rw [← Nbq59.out] at hx262_3); obtain rfl : ad257 = ad262 := (by injection e262); replace hx262_0 := (HB.out.cell (World.block_lt_of_cell? w _ hx262_0)).trans hx262_0; replace hx262_1 := (HB.out.cell (World.block_lt_of_cell? w _ hx262_1)).trans hx262_1; replace hx262_2 := (HB.out.cell (World.block_lt_of_cell? w _ hx262_2)).trans hx262_2; replace hx262_3 := (HB.out.cell (World.block_lt_of_cell? w _ hx262_3)).trans hx262_3; replace hx262_4 := (HB.out.cell (World.block_lt_of_cell? w _ hx262_4)).trans hx262_4; replace hx262_5 := (HB.out.cell (World.block_lt_of_cell? w _ hx262_5)).trans hx262_5; replace hx262_6 := (HB.out.cell (World.block_lt_of_cell? w _ hx262_6)).trans hx262_6; have HR262_5 := Aside0.mk hi262_5; have HC262_5 := Aside0.mk hl262_5; clear hi262_5 hl262_5; have HR262_6 := Aside0.mk hi262_6; have HC262_6 := Aside0.mk hl262_6; clear hi262_6 hl262_6; replace p262 := eq_true p262; replace q262 := eq_true q262))
                                                  repeat (go_quiet (first | ((with_reducible refine gate_store (t := 4) (p := 125) rfl ?_); (try (rw [drewN_self wc]; generalize hq_ : World.drewN wc _ = wc; have n0_ := Aside0.mk (Kd.R_at hq_ HO_10.out); have n1_ := Aside0.mk (Kd.R_at hq_ HO_11.out); have n2_ := Aside0.mk (blk_at hq_ BK245.out); have n3_ := Aside0.mk (below_at hq_ HB.out); clear hq_ HO_10 HO_11 BK245 HB; have HO_10 := n0_; have HO_11 := n1_; have BK245 := n2_; have HB := n3_; clear n0_ n1_ n2_ n3_; (try (have HP61 := Kd.R_putg HO_11.out (((rd_T33 l2 x14_3).f0) : Int) true)))); refine store_event (t := 4) (p := 125) (v := ?vo_w62) (w1 := (wc.setCell ⟨go56, (((rd_T33 l2 x14_3).f0) : Int).toNat, none⟩ (.bool true))) ?hg ?ho ?hn ?hr ?_; (case ho => rfl); (case hg => rfl); (case hn => rfl); (case hr => first | (go_simp; done) | (go_simp; rfl)); intro w62 hw; have hg : wc.grownBy w62 (some go56) := (by rw [hw]; exact HP61.2); have hp_ : Kd.R Kd.bool 4 w62 w.heap.size (fun _ => True) (.slice (some ⟨go56, 0, none⟩) x11_3.length co56) y261 := (by rw [hw, Ny261.out]; exact HP61.1); clear HP61; have n0_ := Aside0.mk (Kd.R_over' (v := (.slice (some ⟨go56, 0, none⟩) x11_3.length co56)) (by exact upR HO_10.out) (Kd.R_typed HO_11.out) (by decide) hg); have n1_ := Aside0.mk (hp_); have n2_ := Aside0.mk (blk_grown (g := gb245) (o := .cells #[.int .i64 a0_0, .slice A0_1 l0_1.length c0_1, .int .i64 a0_2, .int .i64 a0_3, .int .i64 a0_4] 24 (0, 0)) (by (with_reducible repeat (first | refine blk_drewN ?_ _ | refine blk_drew ?_ | refine blk_alloc ?_ _)); exact BK245.out) hg (Kd.R_ne HO_11.out BK245.out (by decide))); have n3_ := Aside0.mk ((by rw [hw]; exact below_set (HB.out) GB56.out : Below w.heap.size w w62)); clear HO_10; clear HO_11; clear BK245; clear HB; have HO_10 := n0_; have HO_11 := n1_; have BK245 := n2_; have HB := n3_; clear n0_ n1_ n2_ n3_; clear hg hw hp_; have p262 : 0 ≤ (x14_3 : Int) := of_decide_eq_true (by first | (with_reducible assumption) | assumption); have q262 : x14_3 < (l2.length : Int) := of_decide_eq_true (by first | (with_reducible assumption) | assumption); obtain ⟨ad262, A262_5, c262_5, A262_6, c262_6, e262, hx262_0, hx262_1, hx262_2, hx262_3, hx262_4, hx262_5, hx262_6, hl262_5, hi262_5, hl262_6, hi262_6⟩ := at_T33 HR2.out x14_3 p262 q262; (try rw [← Nbq59.out] at hx262_3); obtain rfl : ad257 = ad262 := (by injection e262); replace hx262_0 := (HB.out.cell (World.block_lt_of_cell? w _ hx262_0)).trans hx262_0; replace hx262_1 := (HB.out.cell (World.block_lt_of_cell? w _ hx262_1)).trans hx262_1; replace hx262_2 := (HB.out.cell (World.block_lt_of_cell? w _ hx262_2)).trans hx262_2; replace hx262_3 := (HB.out.cell (World.block_lt_of_cell? w _ hx262_3)).trans hx262_3; replace hx262_4 := (HB.out.cell (World.block_lt_of_cell? w _ hx262_4)).trans hx262_4; replace hx262_5 := (HB.out.cell (World.block_lt_of_cell? w _ hx262_5)).trans hx262_5; replace hx262_6 := (HB.out.cell (World.block_lt_of_cell? w _ hx262_6)).trans hx262_6; have HR262_5 := Aside0.mk hi262_5; have HC262_5 := Aside0.mk hl262_5; clear hi262_5 hl262_5; have HR262_6 := Aside0.mk hi262_6; have HC262_6 := Aside0.mk hl262_6; clear hi262_6 hl262_6; replace p262 := eq_true p262; replace q262 := eq_true q262)); try go_wp2_with (first | ((with_reducible refine gate_store (t := 4) (p := 125) rfl ?_); (try (rw [drewN_self wc]; generalize hq_ : World.drewN wc _ = wc; have n0_ := Aside0.mk (Kd.R_at hq_ HO_10.out); have n1_ := Aside0.mk (Kd.R_at hq_ HO_11.out); have n2_ := Aside0.mk (blk_at hq_ BK245.out); have n3_ := Aside0.mk (below_at hq_ HB.out); clear hq_ HO_10 HO_11 BK245 HB; have HO_10 := n0_; have HO_11 := n1_; have BK245 := n2_; have HB := n3_; clear n0_ n1_ n2_ n3_; (try (have HP61 := Kd.R_putg HO_11.out (((rd_T33 l2 x14_3).f0) : Int) true)))); refine store_event (t := 4) (p := 125) (v := ?vo_w62) (w1 := (wc.setCell ⟨go56, (((rd_T33 l2 x14_3).f0) : Int).toNat, none⟩ (.bool true))) ?hg ?ho ?hn ?hr ?_; (case ho => rfl); (case hg => rfl); (case hn => rfl); (case hr => first | (go_simp; done) | (go_simp; rfl)); intro w62 hw; have hg : wc.grownBy w62 (some go56) := (by rw [hw]; exact HP61.2); have hp_ : Kd.R Kd.bool 4 w62 w.heap.size (fun _ => True) (.slice (some ⟨go56, 0, none⟩) x11_3.length co56) y261 := (by rw [hw, Ny261.out]; exact HP61.1); clear HP61; have n0_ := Aside0.mk (Kd.R_over' (v := (.slice (some ⟨go56, 0, none⟩) x11_3.length co56)) (by exact upR HO_10.out) (Kd.R_typed HO_11.out) (by decide) hg); have n1_ := Aside0.mk (hp_); have n2_ := Aside0.mk (blk_grown (g := gb245) (o := .cells #[.int .i64 a0_0, .slice A0_1 l0_1.length c0_1, .int .i64 a0_2, .int .i64 a0_3, .int .i64 a0_4] 24 (0, 0)) (by (with_reducible repeat (first | refine blk_drewN ?_ _ | refine blk_drew ?_ | refine blk_alloc ?_ _)); exact BK245.out) hg (Kd.R_ne HO_11.out BK245.out (by decide))); have n3_ := Aside0.mk ((by rw [hw]; exact below_set (HB.out) GB56.out : Below w.heap.size w w62)); clear HO_10; clear HO_11; clear BK245; clear HB; have HO_10 := n0_; have HO_11 := n1_; have BK245 := n2_; have HB := n3_; clear n0_ n1_ n2_ n3_; clear hg hw hp_; have p262 : 0 ≤ (x14_3 : Int) := of_decide_eq_true (by first | (with_reducible assumption) | assumption); have q262 : x14_3 < (l2.length : Int) := of_decide_eq_true (by first | (with_reducible assumption) | assumption); obtain ⟨ad262, A262_5, c262_5, A262_6, c262_6, e262, hx262_0, hx262_1, hx262_2, hx262_3, hx262_4, hx262_5, hx262_6, hl262_5, hi262_5, hl262_6, hi262_6⟩ := at_T33 HR2.out x14_3 p262 q262; (try rw [← Nbq59.out] at hx262_3); obtain rfl : ad257 = ad262 := (by injection e262); replace hx262_0 := (HB.out.cell (World.block_lt_of_cell? w _ hx262_0)).trans hx262_0; replace hx262_1 := (HB.out.cell (World.block_lt_of_cell? w _ hx262_1)).trans hx262_1; replace hx262_2 := (HB.out.cell (World.block_lt_of_cell? w _ hx262_2)).trans hx262_2; replace hx262_3 := (HB.out.cell (World.block_lt_of_cell? w _ hx262_3)).trans hx262_3; replace hx262_4 := (HB.out.cell (World.block_lt_of_cell? w _ hx262_4)).trans hx262_4; replace hx262_5 := (HB.out.cell (World.block_lt_of_cell? w _ hx262_5)).trans hx262_5; replace hx262_6 := (HB.out.cell (World.block_lt_of_cell? w _ hx262_6)).trans hx262_6; have HR262_5 := Aside0.mk hi262_5; have HC262_5 := Aside0.mk hl262_5; clear hi262_5 hl262_5; have HR262_6 := Aside0.mk hi262_6; have HC262_6 := Aside0.mk hl262_6; clear hi262_6 hl262_6; replace p262 := eq_true p262; replace q262 := eq_true q262)))
                                                  go_roundg kj39
                                                  case measure => have := HJ4.out; have := HJ15.out; have := HK3.out; have := HJ31.out; have := HJ39.out; omega
                                                  case rel => exact ⟨(y261), (x12_3), (wrap64 (x13_3 + 1)), (wrap64 (x14_3 + 1)), (by first | rfl | (simp; done) | (simp [*]; done)), (by first | rfl | (simp; done) | (simp [*]; done)), (by first | rfl | (simp; done) | (simp [*]; done)), H', ⟨by have := HJ4.out; have := HJ15.out; have := HK3.out; have := HJ31.out; have := HJ39.out; omega⟩, ⟨by exact upR HO_10.out⟩, ⟨by exact upR HO_11.out⟩, ⟨by (with_reducible repeat (first | refine blk_drewN ?_ _ | refine blk_drew ?_ | refine blk_alloc ?_ _)); exact BK245.out⟩, ⟨by repeat (first | (with_reducible first | exact HB.out | apply below_alloc | apply pw_below_drewN | apply below_drew1 | refine below_set ?_ GE245.out) | exact HB.out)⟩⟩
                                                · replace c60 := Bool.eq_false_iff.mpr c60
                                                  subst c60
                                                  have H1 : (pandectlaw39_VoteOnce.l0 kj39 a1 l2 t246 t248 t250 y261 x12_3 x13_3 (wrap64 (x14_3 + 1)) a0_0 l0_1 a0_2 a0_3 a0_4) = some r := by rw [if_neg (show ¬ (false = true) by decide)] at H; exact H
                                                  clear H
                                                  have H := H1
                                                  clear H1
                                                  have H' := Aside0.mk H
                                                  clear H
                                                  have p56 : 0 ≤ (((rd_T33 l2 x14_3).f0) : Int) := of_decide_eq_true (by first | (with_reducible assumption) | assumption)
                                                  have q56 : (((rd_T33 l2 x14_3).f0) : Int) < ((x11_3.length : Int) : Int) := of_decide_eq_true (by first | (with_reducible assumption) | assumption)
                                                  obtain ⟨go56, co56, eo56, gb56, gl56, cl56, HG56⟩ := Kd.R_form HO_11.out (by omega)
                                                  (first | cases eo56 | (injection eo56 with ea_ en_ ec_; (first | subst ea_ | (injection ea_ with ea_; subst ea_)); subst ec_; clear en_))
                                                  have GB56 := Aside0.mk gb56
                                                  have GG56 := Aside0.mk HG56
                                                  clear gb56 gl56 HG56
                                                  obtain ⟨hx56_0, hf56_0⟩ := Kd.R_celln false HO_11.out (((rd_T33 l2 x14_3).f0) : Int) p56 q56
                                                  replace p56 := eq_true p56
                                                  replace q56 := eq_true q56
                                                  have HP63 := Kd.R_putg HO_11.out (((rd_T33 l2 x14_3).f0) : Int) true
                                                  go_wp2_with (first | ((with_reducible refine gate_store (t := 4) (p := 125) rfl ?_); (try (rw [drewN_self wc]; generalize hq_ : World.drewN wc _ = wc; have n0_ := Aside0.mk (Kd.R_at hq_ HO_10.out); have n1_ := Aside0.mk (Kd.R_at hq_ HO_11.out); have n2_ := Aside0.mk (blk_at hq_ BK245.out); have n3_ := Aside0.mk (below_at hq_ HB.out); clear hq_ HO_10 HO_11 BK245 HB; have HO_10 := n0_; have HO_11 := n1_; have BK245 := n2_; have HB := n3_; clear n0_ n1_ n2_ n3_; (try (have HP63 := Kd.R_putg HO_11.out (((rd_T33 l2 x14_3).f0) : Int) true)))); refine store_event (t := 4) (p := 125) (v := ?vo_w64) (w1 := (wc.setCell ⟨go56, (((rd_T33 l2 x14_3).f0) : Int).toNat, none⟩ (.bool true))) ?hg ?ho ?hn ?hr ?_; (case ho => rfl); (case hg => rfl); (case hn => rfl); (case hr => first | (go_simp; done) | (go_simp; rfl)); intro w64 hw; have hg : wc.grownBy w64 (some go56) := (by rw [hw]; exact HP63.2); have hp_ : Kd.R Kd.bool 4 w64 w.heap.size (fun _ => True) (.slice (some ⟨go56, 0, none⟩) x11_3.length co56) y261 := (by rw [hw, Ny261.out]; exact HP63.1); clear HP63; have n0_ := Aside0.mk (Kd.R_over' (v := (.slice (some ⟨go56, 0, none⟩) x11_3.length co56)) (by exact upR HO_10.out) (Kd.R_typed HO_11.out) (by decide) hg); have n1_ := Aside0.mk (hp_); have n2_ := Aside0.mk (blk_grown (g := gb245) (o := .cells #[.int .i64 a0_0, .slice A0_1 l0_1.length c0_1, .int .i64 a0_2, .int .i64 a0_3, .int .i64 a0_4] 24 (0, 0)) (by (with_reducible repeat (first | refine blk_drewN ?_ _ | refine blk_drew ?_ | refine blk_alloc ?_ _)); exact BK245.out) hg (Kd.R_ne HO_11.out BK245.out (by decide))); have n3_ := Aside0.mk ((by rw [hw]; exact below_set (HB.out) GB56.out : Below w.heap.size w w64)); clear HO_10; clear HO_11; clear BK245; clear HB; have HO_10 := n0_; have HO_11 := n1_; have BK245 := n2_; have HB := n3_; clear n0_ n1_ n2_ n3_; clear hg hw hp_; have p262 : 0 ≤ (x14_3 : Int) := of_decide_eq_true (by first | (with_reducible assumption) | assumption); have q262 : x14_3 < (l2.length : Int) := of_decide_eq_true (by first | (with_reducible assumption) | assumption); obtain ⟨ad262, A262_5, c262_5, A262_6, c262_6, e262, hx262_0, hx262_1, hx262_2, hx262_3, hx262_4, hx262_5, hx262_6, hl262_5, hi262_5, hl262_6, hi262_6⟩ := at_T33 HR2.out x14_3 p262 q262; (try rw [← Nbq59.out] at hx262_3); obtain rfl : ad257 = ad262 := (by injection e262); replace hx262_0 := (HB.out.cell (World.block_lt_of_cell? w _ hx262_0)).trans hx262_0; replace hx262_1 := (HB.out.cell (World.block_lt_of_cell? w _ hx262_1)).trans hx262_1; replace hx262_2 := (HB.out.cell (World.block_lt_of_cell? w _ hx262_2)).trans hx262_2; replace hx262_3 := (HB.out.cell (World.block_lt_of_cell? w _ hx262_3)).trans hx262_3; replace hx262_4 := (HB.out.cell (World.block_lt_of_cell? w _ hx262_4)).trans hx262_4; replace hx262_5 := (HB.out.cell (World.block_lt_of_cell? w _ hx262_5)).trans hx262_5; replace hx262_6 := (HB.out.cell (World.block_lt_of_cell? w _ hx262_6)).trans hx262_6; have HR262_5 := Aside0.mk hi262_5; have HC262_5 := Aside0.mk hl262_5; clear hi262_5 hl262_5; have HR262_6 := Aside0.mk hi262_6; have HC262_6 := Aside0.mk hl262_6; clear hi262_6 hl262_6; replace p262 := eq_true p262; replace q262 := eq_true q262))
                                                  repeat (go_quiet (first | ((with_reducible refine gate_store (t := 4) (p := 125) rfl ?_); (try (rw [drewN_self wc]; generalize hq_ : World.drewN wc _ = wc; have n0_ := Aside0.mk (Kd.R_at hq_ HO_10.out); have n1_ := Aside0.mk (Kd.R_at hq_ HO_11.out); have n2_ := Aside0.mk (blk_at hq_ BK245.out); have n3_ := Aside0.mk (below_at hq_ HB.out); clear hq_ HO_10 HO_11 BK245 HB; have HO_10 := n0_; have HO_11 := n1_; have BK245 := n2_; have HB := n3_; clear n0_ n1_ n2_ n3_; (try (have HP63 := Kd.R_putg HO_11.out (((rd_T33 l2 x14_3).f0) : Int) true)))); refine store_event (t := 4) (p := 125) (v := ?vo_w64) (w1 := (wc.setCell ⟨go56, (((rd_T33 l2 x14_3).f0) : Int).toNat, none⟩ (.bool true))) ?hg ?ho ?hn ?hr ?_; (case ho => rfl); (case hg => rfl); (case hn => rfl); (case hr => first | (go_simp; done) | (go_simp; rfl)); intro w64 hw; have hg : wc.grownBy w64 (some go56) := (by rw [hw]; exact HP63.2); have hp_ : Kd.R Kd.bool 4 w64 w.heap.size (fun _ => True) (.slice (some ⟨go56, 0, none⟩) x11_3.length co56) y261 := (by rw [hw, Ny261.out]; exact HP63.1); clear HP63; have n0_ := Aside0.mk (Kd.R_over' (v := (.slice (some ⟨go56, 0, none⟩) x11_3.length co56)) (by exact upR HO_10.out) (Kd.R_typed HO_11.out) (by decide) hg); have n1_ := Aside0.mk (hp_); have n2_ := Aside0.mk (blk_grown (g := gb245) (o := .cells #[.int .i64 a0_0, .slice A0_1 l0_1.length c0_1, .int .i64 a0_2, .int .i64 a0_3, .int .i64 a0_4] 24 (0, 0)) (by (with_reducible repeat (first | refine blk_drewN ?_ _ | refine blk_drew ?_ | refine blk_alloc ?_ _)); exact BK245.out) hg (Kd.R_ne HO_11.out BK245.out (by decide))); have n3_ := Aside0.mk ((by rw [hw]; exact below_set (HB.out) GB56.out : Below w.heap.size w w64)); clear HO_10; clear HO_11; clear BK245; clear HB; have HO_10 := n0_; have HO_11 := n1_; have BK245 := n2_; have HB := n3_; clear n0_ n1_ n2_ n3_; clear hg hw hp_; have p262 : 0 ≤ (x14_3 : Int) := of_decide_eq_true (by first | (with_reducible assumption) | assumption); have q262 : x14_3 < (l2.length : Int) := of_decide_eq_true (by first | (with_reducible assumption) | assumption); obtain ⟨ad262, A262_5, c262_5, A262_6, c262_6, e262, hx262_0, hx262_1, hx262_2, hx262_3, hx262_4, hx262_5, hx262_6, hl262_5, hi262_5, hl262_6, hi262_6⟩ := at_T33 HR2.out x14_3 p262 q262; (try rw [← Nbq59.out] at hx262_3); obtain rfl : ad257 = ad262 := (by injection e262); replace hx262_0 := (HB.out.cell (World.block_lt_of_cell? w _ hx262_0)).trans hx262_0; replace hx262_1 := (HB.out.cell (World.block_lt_of_cell? w _ hx262_1)).trans hx262_1; replace hx262_2 := (HB.out.cell (World.block_lt_of_cell? w _ hx262_2)).trans hx262_2; replace hx262_3 := (HB.out.cell (World.block_lt_of_cell? w _ hx262_3)).trans hx262_3; replace hx262_4 := (HB.out.cell (World.block_lt_of_cell? w _ hx262_4)).trans hx262_4; replace hx262_5 := (HB.out.cell (World.block_lt_of_cell? w _ hx262_5)).trans hx262_5; replace hx262_6 := (HB.out.cell (World.block_lt_of_cell? w _ hx262_6)).trans hx262_6; have HR262_5 := Aside0.mk hi262_5; have HC262_5 := Aside0.mk hl262_5; clear hi262_5 hl262_5; have HR262_6 := Aside0.mk hi262_6; have HC262_6 := Aside0.mk hl262_6; clear hi262_6 hl262_6; replace p262 := eq_true p262; replace q262 := eq_true q262)); try go_wp2_with (first | ((with_reducible refine gate_store (t := 4) (p := 125) rfl ?_); (try (rw [drewN_self wc]; generalize hq_ : World.drewN wc _ = wc; have n0_ := Aside0.mk (Kd.R_at hq_ HO_10.out); have n1_ := Aside0.mk (Kd.R_at hq_ HO_11.out); have n2_ := Aside0.mk (blk_at hq_ BK245.out); have n3_ := Aside0.mk (below_at hq_ HB.out); clear hq_ HO_10 HO_11 BK245 HB; have HO_10 := n0_; have HO_11 := n1_; have BK245 := n2_; have HB := n3_; clear n0_ n1_ n2_ n3_; (try (have HP63 := Kd.R_putg HO_11.out (((rd_T33 l2 x14_3).f0) : Int) true)))); refine store_event (t := 4) (p := 125) (v := ?vo_w64) (w1 := (wc.setCell ⟨go56, (((rd_T33 l2 x14_3).f0) : Int).toNat, none⟩ (.bool true))) ?hg ?ho ?hn ?hr ?_; (case ho => rfl); (case hg => rfl); (case hn => rfl); (case hr => first | (go_simp; done) | (go_simp; rfl)); intro w64 hw; have hg : wc.grownBy w64 (some go56) := (by rw [hw]; exact HP63.2); have hp_ : Kd.R Kd.bool 4 w64 w.heap.size (fun _ => True) (.slice (some ⟨go56, 0, none⟩) x11_3.length co56) y261 := (by rw [hw, Ny261.out]; exact HP63.1); clear HP63; have n0_ := Aside0.mk (Kd.R_over' (v := (.slice (some ⟨go56, 0, none⟩) x11_3.length co56)) (by exact upR HO_10.out) (Kd.R_typed HO_11.out) (by decide) hg); have n1_ := Aside0.mk (hp_); have n2_ := Aside0.mk (blk_grown (g := gb245) (o := .cells #[.int .i64 a0_0, .slice A0_1 l0_1.length c0_1, .int .i64 a0_2, .int .i64 a0_3, .int .i64 a0_4] 24 (0, 0)) (by (with_reducible repeat (first | refine blk_drewN ?_ _ | refine blk_drew ?_ | refine blk_alloc ?_ _)); exact BK245.out) hg (Kd.R_ne HO_11.out BK245.out (by decide))); have n3_ := Aside0.mk ((by rw [hw]; exact below_set (HB.out) GB56.out : Below w.heap.size w w64)); clear HO_10; clear HO_11; clear BK245; clear HB; have HO_10 := n0_; have HO_11 := n1_; have BK245 := n2_; have HB := n3_; clear n0_ n1_ n2_ n3_; clear hg hw hp_; have p262 : 0 ≤ (x14_3 : Int) := of_decide_eq_true (by first | (with_reducible assumption) | assumption); have q262 : x14_3 < (l2.length : Int) := of_decide_eq_true (by first | (with_reducible assumption) | assumption); obtain ⟨ad262, A262_5, c262_5, A262_6, c262_6, e262, hx262_0, hx262_1, hx262_2, hx262_3, hx262_4, hx262_5, hx262_6, hl262_5, hi262_5, hl262_6, hi262_6⟩ := at_T33 HR2.out x14_3 p262 q262; (try rw [← Nbq59.out] at hx262_3); obtain rfl : ad257 = ad262 := (by injection e262); replace hx262_0 := (HB.out.cell (World.block_lt_of_cell? w _ hx262_0)).trans hx262_0; replace hx262_1 := (HB.out.cell (World.block_lt_of_cell? w _ hx262_1)).trans hx262_1; replace hx262_2 := (HB.out.cell (World.block_lt_of_cell? w _ hx262_2)).trans hx262_2; replace hx262_3 := (HB.out.cell (World.block_lt_of_cell? w _ hx262_3)).trans hx262_3; replace hx262_4 := (HB.out.cell (World.block_lt_of_cell? w _ hx262_4)).trans hx262_4; replace hx262_5 := (HB.out.cell (World.block_lt_of_cell? w _ hx262_5)).trans hx262_5; replace hx262_6 := (HB.out.cell (World.block_lt_of_cell? w _ hx262_6)).trans hx262_6; have HR262_5 := Aside0.mk hi262_5; have HC262_5 := Aside0.mk hl262_5; clear hi262_5 hl262_5; have HR262_6 := Aside0.mk hi262_6; have HC262_6 := Aside0.mk hl262_6; clear hi262_6 hl262_6; replace p262 := eq_true p262; replace q262 := eq_true q262)))
                                                  go_roundg kj39
                                                  case measure => have := HJ4.out; have := HJ15.out; have := HK3.out; have := HJ31.out; have := HJ39.out; omega
                                                  case rel => exact ⟨(y261), (x12_3), (x13_3), (wrap64 (x14_3 + 1)), (by first | rfl | (simp; done) | (simp [*]; done)), (by first | rfl | (simp; done) | (simp [*]; done)), (by first | rfl | (simp; done) | (simp [*]; done)), H', ⟨by have := HJ4.out; have := HJ15.out; have := HK3.out; have := HJ31.out; have := HJ39.out; omega⟩, ⟨by exact upR HO_10.out⟩, ⟨by exact upR HO_11.out⟩, ⟨by (with_reducible repeat (first | refine blk_drewN ?_ _ | refine blk_drew ?_ | refine blk_alloc ?_ _)); exact BK245.out⟩, ⟨by repeat (first | (with_reducible first | exact HB.out | apply below_alloc | apply pw_below_drewN | apply below_drew1 | refine below_set ?_ GE245.out) | exact HB.out)⟩⟩
                                              · rw [if_neg c58] at H
                                                exact absurd H (by simp)
                                            · rw [if_neg c57] at H
                                              exact absurd H (by simp)
                                          · rw [if_neg c55] at H
                                            exact absurd H (by simp)
                                        · rw [if_neg c54] at H
                                          exact absurd H (by simp)
                                · rw [if_neg c39] at H
                                  exact absurd H (by simp)
                              · rw [if_neg c38] at H
                                exact absurd H (by simp)
                      · rw [if_neg c31] at H
                        have c31b0 : decide (x14_3 < (l2.length : Int)) = false := decide_eq_false c31
                        clear c31
                        by_cases c65 : t246 = true
                        · subst c65
                          have H1 : (if x12_3 = (t250.length : Int) then (some (x13_3 == t248)) else (some false)) = some r := by rw [if_pos rfl] at H; exact H
                          clear H
                          have H := H1
                          clear H1
                          by_cases c66 : x12_3 = (t250.length : Int)
                          · rw [if_pos c66] at H
                            have c66b0 : (x12_3 == (t250.length : Int)) = true := beq_iff_eq.mpr c66
                            have c66b1 : (x12_3 != (t250.length : Int)) = false := bne_eq_false_iff_eq.mpr c66
                            clear c66
                            obtain rfl := Option.some.inj H
                            obtain ⟨Ao67, co67, eo67⟩ := Kd.R_slice HO_10.out
                            subst eo67
                            go_wp2
                            repeat (go_quiet (fail); try go_wp2)
                            go_ret
                            exact ⟨by first | rfl | (simp [errW_none, errW_some] <;> rfl) | (simp [*, errW_none, errW_some] <;> rfl), by repeat (first | (with_reducible first | exact HB.out | apply below_alloc | apply pw_below_drewN | apply below_drew1 | refine below_set ?_ GE245.out) | exact HB.out)⟩
                          · rw [if_neg c66] at H
                            have c66b0 : (x12_3 == (t250.length : Int)) = false := beq_eq_false_iff_ne.mpr c66
                            have c66b1 : (x12_3 != (t250.length : Int)) = true := bne_iff_ne.mpr c66
                            obtain rfl := Option.some.inj H
                            obtain ⟨Ao68, co68, eo68⟩ := Kd.R_slice HO_10.out
                            subst eo68
                            go_wp2
                            repeat (go_quiet (fail); try go_wp2)
                            go_ret
                            exact ⟨by first | rfl | (simp [errW_none, errW_some] <;> rfl) | (simp [*, errW_none, errW_some] <;> rfl), by repeat (first | (with_reducible first | exact HB.out | apply below_alloc | apply pw_below_drewN | apply below_drew1 | refine below_set ?_ GE245.out) | exact HB.out)⟩
                        · replace c65 := Bool.eq_false_iff.mpr c65
                          subst c65
                          have H1 : (some false) = some r := by rw [if_neg (show ¬ (false = true) by decide)] at H; exact H
                          clear H
                          have H := H1
                          clear H1
                          obtain rfl := Option.some.inj H
                          go_wp2
                          repeat (go_quiet (fail); try go_wp2)
                          go_ret
                          exact ⟨by first | rfl | (simp [errW_none, errW_some] <;> rfl) | (simp [*, errW_none, errW_some] <;> rfl), by repeat (first | (with_reducible first | exact HB.out | apply below_alloc | apply pw_below_drewN | apply below_drew1 | refine below_set ?_ GE245.out) | exact HB.out)⟩
                · rw [if_neg c27] at H
                  exact absurd H (by simp)
              · rw [if_neg c26] at H
                exact absurd H (by simp)

end Go.Proofs.YtoimnllcniefoaaDoor.P
