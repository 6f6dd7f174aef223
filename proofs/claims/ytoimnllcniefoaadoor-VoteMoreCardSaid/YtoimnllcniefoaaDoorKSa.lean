import Derived.RangeFuncNested
import Derived.RangeFuncBound
import Derived.RangeFuncCalls
import Derived.RangeFuncLeaves
import Derived.Shelf.Abstract
import Derived.Shelf.RegionOpen
import Derived.OwnWalkIn
import Derived.TacticsInMore
import Derived.LoopNIn
import Derived.LoopIn
import Derived.Test.YtoimnllcniefoaaDoorKS0
import Derived.Test.YtoimnllcniefoaaDoorKD
import Derived.OrdersIn
import Derived.Test.YtoimnllcniefoaaDoorKPx0
import Derived.Test.YtoimnllcniefoaaDoorKPx1
import Derived.Test.YtoimnllcniefoaaDoorKPx3
import Derived.Test.YtoimnllcniefoaaDoorKPx4
import Derived.Test.YtoimnllcniefoaaDoorKTa
import Derived.BigQuiet
import Derived.Deep.QuietTactic
set_option linter.unusedVariables false
set_option linter.unusedSimpArgs false
/- seal.digits: the function value that it returns goes over the eighteen numbers and digits of a message, for every body of a loop. -/
namespace Go.Proofs.YtoimnllcniefoaaDoor.P
open Go.RowKit Go.Shelf Go.Proofs.YtoimnllcniefoaaDoor Go.Proofs.YtoimnllcniefoaaDoorW.PrintWords Go.Proofs.YtoimnllcniefoaaDoorW.PrintLast Go.Proofs.YtoimnllcniefoaaDoorW.PrintMore
set_option linter.unusedVariables false
attribute [local go_sem] Oper.semAt_some

/-! ### what has come when i rounds are over -/
def upto18 (k : Nat) : List (Fin 18) := (List.finRange 18).take k
def dvals (m : ByteArray) (x : Fin 18) : Array Value := #[.int .i64 (x.1 : Int), .int .i64 (Sl.dg m x.1 : Int)]
theorem upto18_succ (k : Nat) (h : k < 18) : upto18 (k + 1) = upto18 k ++ [⟨k, h⟩] := by
  unfold upto18
  rw [List.take_add_one, List.getElem?_eq_getElem (by simpa using h)]
  simp
theorem upto18_length (k : Nat) (h : k ≤ 18) : (upto18 k).length = k := by simp [upto18]; omega
theorem upto18_all : upto18 18 = List.finRange 18 := List.take_of_length_le (by simp)

def restTo (m : ByteArray) (i : Nat) : Nat := Sl.rest ((Sl.dl m).take i)
theorem rest_append : ∀ (l r : List Nat), Sl.rest (l ++ r) = Sl.rest l + Sl.rest r := by
  intro l
  induction l with
  | nil => intro r; simp [Sl.rest]
  | cons d l ih => intro r; simp only [List.cons_append, Sl.rest, ih]; omega
theorem dg_low (m : ByteArray) (i : Nat) (h : i < 16) : (Sl.dl m)[i]? = some (Sl.dg m i) := by
  unfold Sl.dg Sl.digs
  rw [List.getD_eq_getElem?_getD, List.getElem?_append_left (by rw [Sl.dl_length]; exact h), List.getElem?_eq_getElem (by rw [Sl.dl_length]; exact h)]
  rfl
theorem restTo_succ (m : ByteArray) (i : Nat) (h : i < 16) : restTo m (i + 1) = restTo m i + (15 - Sl.dg m i) := by
  unfold restTo
  rw [List.take_add_one, rest_append, dg_low m i h]
  simp [Sl.rest]
theorem restTo_le (m : ByteArray) (i : Nat) : restTo m i ≤ 15 * i := by
  have := Sl.rest_le ((Sl.dl m).take i)
  rw [List.length_take] at this
  unfold restTo
  have : min i (Sl.dl m).length ≤ i := Nat.min_le_left _ _
  omega
theorem restTo_all (m : ByteArray) : restTo m 16 = Sl.rest (Sl.dl m) := by
  unfold restTo
  rw [List.take_of_length_le (by rw [Sl.dl_length]; omega)]
theorem dg_16 (m : ByteArray) : Sl.dg m 16 = restTo m 16 / 16 := by
  rw [restTo_all]
  unfold Sl.dg Sl.digs
  rw [List.getD_eq_getElem?_getD, List.getElem?_append_right (by rw [Sl.dl_length]; omega), Sl.dl_length]; rfl
theorem dg_17 (m : ByteArray) : Sl.dg m 17 = restTo m 16 % 16 := by
  rw [restTo_all]
  unfold Sl.dg Sl.digs
  rw [List.getD_eq_getElem?_getD, List.getElem?_append_right (by rw [Sl.dl_length]; omega), Sl.dl_length]; rfl

theorem index_hv : ∀ c : UInt8, Dg.hexset.contains c = true → Lib.indexByte Dg.hexset c = (Sl.hv c : Int) := by
  intro c h
  have hm : c ∈ Dg.hexset := by simpa using h
  simp only [Dg.hexset, List.mem_cons, List.not_mem_nil, or_false] at hm
  rcases hm with rfl | rfl | rfl | rfl | rfl | rfl | rfl | rfl | rfl | rfl | rfl | rfl | rfl | rfl | rfl | rfl <;> decide

theorem sum_get (m : ByteArray) (i : Nat) (h : i < 16) (hi : i < (Dg.sum m).data.size) : Lib.indexByte Dg.hexset ((Dg.sum m).data[i]) = (Sl.dg m i : Int) := by
  have h1 := dg_low m i h
  unfold Sl.dl at h1
  have hi2 : i < (Dg.sum m).data.toList.length := by simpa using hi
  rw [List.getElem?_map, List.getElem?_eq_getElem hi2] at h1
  simp only [Option.map_some, Option.some.injEq] at h1
  rw [← h1, index_hv _ (by
    have := List.all_eq_true.1 (Sl.sum_all m) _ (List.getElem_mem hi2)
    simpa using this)]
  simp

theorem byte_round (b : UInt8) : ((b.toNat : Int)).toNat.toUInt8 = b := by simp

set_option maxRecDepth 100000 in
set_option maxHeartbeats 4000000 in
theorem digits_stops (n : Nat) (m : ByteArray) (hm : m.size ≤ 9223372036854775807) (b : Nat) (w : World) (hbl : b < w.heap.size) (hb : w.cell? ⟨b, 0, none⟩ = some (.string m)) :
    SeqStopsK Fence.wide n Tryd.prog 58 #[.pointer (some ⟨b, 0, none⟩)] (dvals m) (fun _ _ => True) (fun xs => xs = List.finRange 18) (fun _ => True) 18 w := fun l J Jx W hW hJ hJx hY h0 => by
  have hb' : W.cell? ⟨b, 0, none⟩ = some (.string m) := (hW.cell (p := ⟨b, 0, none⟩) hbl).trans hb
  have HS := (callsIn_wide (n := n - 1)).2 (digest_Sum.calls m (Dg.sum m) W (by simp [digest_Sum.f, hm]))
  have hsz : (Dg.sum m).size = 16 := Dg.sum_size m
  have hszd : (Dg.sum m).data.size = 16 := Dg.sum_size m
  refine callsIn_of_wp Tryd.func58 rfl trivial ?_ rfl
  simp only [Tryd.ntmps58, List.size_toArray, List.length_cons, List.length_nil, Nat.reduceAdd, Nat.reduceSub, Array.replicate_succ, Array.replicate_zero, List.push_toArray, List.append_toArray, List.nil_append, List.cons_append]
  gi_wp2
  refine ⟨trivial, (fun h => by cases h), ?_⟩
  gi_at_call 19
  refine HS.mono ?_
  rintro e W1 ⟨rfl, hb1⟩
  gi_wp2
  have h1 : J [] W1 := hJ _ _ _ none h0 ⟨hb1.os, hb1.tape, hb1.output, hb1.size, fun k hk _ => hb1.block k hk⟩ (fun r e => by cases e)
  clear HS hb' h0
  generalize hs : Dg.sum m = s at *
  gi_loopw [3, 11] (fun p q wr => ∃ k : Nat, k ≤ 16 ∧ p = .int .i64 (restTo m k : Int) ∧ q = .int .i64 (k : Int) ∧ J (upto18 k) wr)
    (fun _ q _ => 16 - (intOf q).toNat)
  case atStart => exact ⟨0, Nat.zero_le _, rfl, rfl, h1⟩
  case round =>
    obtain ⟨k, hk, rfl, rfl, hJs⟩ := hrel
    by_cases hlt : k < 16
    · obtain ⟨fn, tmps, assign, body, hy, hR⟩ := hY _ ⟨k, by omega⟩ wr hJs (by rw [upto18_length k (by omega)]; omega)
      dsimp only [dvals] at hy
      have hkz : k < s.size := by omega
      have HI := (callsIn_wide (n := n - 1)).2 (Tryd.strings_IndexByte ⟨#[48, 49, 50, 51, 52, 53, 54, 55, 56, 57, 97, 98, 99, 100, 101, 102]⟩ (s[k].toNat : Int) wr)
      have hv : Lib.indexByte (⟨#[48, 49, 50, 51, 52, 53, 54, 55, 56, 57, 97, 98, 99, 100, 101, 102]⟩ : ByteArray).data.toList (s[k].toNat : Int).toNat.toUInt8 = (Sl.dg m k : Int) := by
        rw [byte_round]
        subst hs
        exact sum_get m k hlt (by rw [hszd]; exact hlt)
      rw [hv] at HI
      have hd := Sl.dg_le m k
      have hr := restTo_le m k
      have hr2 := restTo_succ m k hlt
      gi_wp2
      refine ⟨trivial, (fun h => by cases h), ?_⟩
      gi_at_call 59
      refine HI.mono ?_
      rintro e w2 ⟨rfl, rfl⟩
      clear HI hv
      gi_wp2
      refine ⟨(fun h => by cases h), hR.mono ?_⟩
      rintro e W3 (⟨rfl, hJ3, _⟩ | ⟨rfl, hJx3⟩)
      · gi_wp2
        go_roundw
        case rel => exact ⟨k + 1, by omega, by rw [hr2]; congr 1; omega, by simp, by rw [upto18_succ k (by omega)]; exact hJ3⟩
        case measure => simp [intOf]; omega
      · gi_wp2
        refine bodyPost_ret (results_none rfl _ _ _) rfl ?_
        exact ⟨⟨_, rfl⟩, .inr ⟨_, trivial, hJx3⟩⟩
    · obtain rfl : k = 16 := by omega
      have hr := restTo_le m 16
      have h16 := dg_16 m
      have h17 := dg_17 m
      obtain ⟨f1, t1, as1, b1, hy1, hR1⟩ := hY _ ⟨16, by omega⟩ wr hJs (by rw [upto18_length 16 (by omega)]; omega)
      dsimp only [dvals] at hy1
      rw [h16, show ((restTo m 16 / 16 : Nat) : Int) = (restTo m 16 : Int) / 16 from by omega, show ((16 : Nat) : Int) = 16 from rfl] at hy1
      gi_wp2
      refine ⟨(fun h => by cases h), hR1.mono ?_⟩
      rintro e W3 (⟨rfl, hJ3, _⟩ | ⟨rfl, hJx3⟩)
      · obtain ⟨f2, t2, as2, b2, hy2, hR2⟩ := hY _ ⟨17, by omega⟩ W3 hJ3 (by rw [List.length_append, upto18_length 16 (by omega)]; simp)
        dsimp only [dvals] at hy2
        rw [h17, show ((restTo m 16 % 16 : Nat) : Int) = (restTo m 16 : Int) % 16 from by omega, show ((17 : Nat) : Int) = 17 from rfl] at hy2
        gi_wp2
        refine ⟨(fun h => by cases h), hR2.mono ?_⟩
        rintro e W4 (⟨rfl, hJ4, _⟩ | ⟨rfl, hJx4⟩)
        · gi_wp2
          go_end0
          exact ⟨⟨_, rfl⟩, .inl ⟨_, by rw [← upto18_all, upto18_succ 17 (by omega), upto18_succ 16 (by omega)], hJ4⟩⟩
        · gi_wp2
          go_end0
          exact ⟨⟨_, rfl⟩, .inr ⟨_, trivial, hJx4⟩⟩
      · gi_wp2
        go_end0
        exact ⟨⟨_, rfl⟩, .inr ⟨_, trivial, hJx3⟩⟩

set_option maxHeartbeats 1000000 in
theorem digits_makes (m : ByteArray) (w : World) :
    Calls Tryd.prog 32 #[.string m] w fun e w' => e = .returned (.func (.func 58) #[] #[.pointer (some ⟨w.heap.size, 0, none⟩)]) ∧ w' = w.alloc (.cells #[.string m] 9) := by
  go_enter Tryd.func32, Tryd.ntmps32
  go_wp2
  go_ret
  exact ⟨rfl, rfl⟩
end Go.Proofs.YtoimnllcniefoaaDoor.P
/- A region that draws its order, within a round of a range over a function: the print's words on a region serve there, too. -/
namespace Go.Proofs.YtoimnllcniefoaaDoor.P
open Go.RowKit Go.Proofs.YtoimnllcniefoaaDoorW.PrintWords Go.Proofs.YtoimnllcniefoaaDoorW.PrintLast Go.Proofs.YtoimnllcniefoaaDoorW.PrintMore
set_option linter.unusedVariables false

/-- No operation of the region is a defer statement. -/
def noDefer (ops : Array Oper) : Bool := ops.all fun o => match o.op with | .defer _ => false | _ => true

theorem noDefer_spec {ops : Array Oper} (h : noDefer ops = true) {i : Nat} {o : Oper} (ho : ops[i]? = some o) : ∀ c, o.op ≠ .defer c := by
  intro c hc
  unfold noDefer at h
  have hi := (Array.getElem?_eq_some_iff.1 ho)
  obtain ⟨hlt, he⟩ := hi
  have := Array.all_eq_true.1 h i hlt
  rw [he, hc] at this
  simp at this

theorem opIn_of_wp {P : Program} {Q : Exit → Act → World → Prop} {l n : Nat} {o : Oper} (hnd : ∀ c, o.op ≠ .defer c) {a : Act} {w : World} {K : Act → World → Prop} (h : o.wp P a w K Q) :
    o.wpIn (Fence.wide.inRound l) n P a w K Q := by
  refine ⟨fun _ _ => trivial, ?_⟩
  rw [Fence.inRound_round, Oper.semAt_some l _ _ hnd]
  unfold Oper.wp at h
  generalize (execOp a.eval o).run P w = r at h
  cases r with
  | ok x w' =>
    cases x <;> simp only [Oper.upon, Oper.uponIn] at h ⊢ <;> first | exact h | exact h.elim | skip
    · exact ⟨fun h => (by cases h), CallsIn.inRound l (callsIn_wide.2 (h.mono fun e w'' he => by cases e <;> exact he))⟩
    · refine ⟨fun h => (by cases h), fun c cs _ => ?_⟩
      obtain ⟨v, w'', hr, hs⟩ := h c cs
      exact ⟨v, w'', hr, by rw [fenced_inRound]; exact stepsIn_wide.2 hs⟩
  | halt x w' => cases x <;> simp only [Oper.upon, Oper.uponIn] at h ⊢ <;> first | exact h | exact h.elim

theorem opsIn_of_wp {P : Program} {ops : Array Oper} {Q : Exit → Act → World → Prop} (hnd : noDefer ops = true) (hQ : ∀ a w, ¬ Q .outgrown a w) (l n : Nat) : ∀ (is : List Nat) (a : Act) (w : World),
    wpOps P ops Q is a w → wpOpsIn (Fence.wide.inRound l) n P ops Q is a w := by
  intro is
  induction is with
  | nil => intro a w h; exact h
  | cons i rest ih =>
    intro a w h
    simp only [wpOps, wpOpsIn] at h ⊢
    cases ho : ops[i]? with
    | none => simp only [ho] at h ⊢; exact ih _ _ h
    | some o =>
      simp only [ho] at h ⊢
      by_cases hw : Region.wanted o (yielded ops a.tmps) = true
      · simp only [hw, if_true] at h ⊢
        rcases h with h | ⟨_, a', w', h⟩
        · exact Oper.wpIn_mono (fun a w h => ih a w h) (opIn_of_wp (noDefer_spec hnd ho) h)
        · exact absurd h (hQ _ _)
      · simp only [hw, if_false, Bool.false_eq_true] at h ⊢
        exact ⟨fun _ _ => trivial, ih _ _ h⟩

/-- The begin of a region that draws, within a round. -/
theorem startIn_ {P : Program} {ops : Array Oper} {Q : Exit → Act → World → Prop} {S : World → Prop} {ds : List Nat} {id n lp d : Nat} {a : Act} {w : World} (l : Array Bool) (hnd : noDefer ops = true) (hQ : ∀ a w, ¬ Q .outgrown a w) (hm : P.follows .mixedOrders = true) (hn : ops.size = n) (hl : Array.replicate n false = l) (hS : S w.drew)
    (h : S w.drew → wpAnyLast P .any ops Q S ds n l a w.drew) : (Code.region id ops true).wpIn (Fence.wide.inRound lp) d P Q a w := by
  subst hn
  subst hl
  refine wpIn_region_draw fun t => ?_
  refine opsIn_of_wp hnd hQ _ _ _ _ _ ?_
  have h1 := wpAny_of_last _ _ _ _ (h hS)
  have h2 := wpAny_sound ops.size t _ _ _ h1
  simp only [Region.schedule, hm, Bool.true_or, if_true]
  exact h2
end Go.Proofs.YtoimnllcniefoaaDoor.P
/- seal.Sign: its loop over the digits of a message, and its contract. -/
namespace Go.Proofs.YtoimnllcniefoaaDoor.P
open Go.RowKit Go.Proofs.YtoimnllcniefoaaDoor Go.Proofs.YtoimnllcniefoaaDoorW.PrintWords Go.Proofs.YtoimnllcniefoaaDoorW.PrintLast Go.Proofs.YtoimnllcniefoaaDoorW.PrintMore
set_option linter.unusedVariables false
set_option linter.unusedSimpArgs false
attribute [local go_sem] Oper.semAt_some

theorem blk_kept {A B : World} {row : Option Nat} (hg : A.grownBy B row) (hr : ∀ r, row = some r → ∃ o : Obj, A.heap[r]? = some o ∧ o.isCells = false) {g : Nat} {cs : Array Value} {t : TypeId} {fz : Nat × Nat} (h : A.heap[g]? = some (.cells cs t fz)) : B.heap[g]? = some (.cells cs t fz) :=
  (hg.block g (blk_lt h) (fun e => by obtain ⟨o, ho, hc⟩ := hr g e.symm; rw [ho] at h; cases h; simp [Obj.isCells] at hc)).trans h

theorem R_kept {A B : World} {row : Option Nat} (hg : A.grownBy B row) (hr : ∀ r, row = some r → ∃ o : Obj, A.heap[r]? = some o ∧ o.isCells = false) {α : Type} {d : Kd α} {e base : Nat} {ok : Nat → Prop} {v : Value} {xs : List α} (h : d.R e A base ok v xs) : d.R e B base ok v xs :=
  Kd.R_mono (Kd.R_grown (Kd.R_bound h) hg (fun k hk e => by
    obtain ⟨_, _, _, q, _, cells, hc⟩ := hk
    obtain ⟨o, ho, hc2⟩ := hr k e.symm
    rw [ho] at hc; cases hc; simp [Obj.isCells] at hc2)) (fun _ hk => hk.1)

theorem below_others {w w' : World} (h : Below w.heap.size w w') : KeepsOthers w w' :=
  ⟨h.size, fun k o hk _ => (h.block k (Array.getElem?_eq_some_iff.1 hk).1).trans hk⟩

theorem pw8 : ∀ n, n ≤ 8 → (1 : Int) ≤ 2 ^ n ∧ (2 : Int) ^ n ≤ 256 := by decide +kernel

/-- A region that is left at its end alone. -/
def onlyNormal (Q : Exit → Act → World → Prop) : Exit → Act → World → Prop
  | .normal, a, w => Q .normal a w
  | _, _, _ => False
theorem wp_onlyNormal {P : Program} {c : Code} {Q : Exit → Act → World → Prop} {a : Act} {w : World} (h : c.wp P (onlyNormal Q) a w) : c.wp P Q a w :=
  wp_mono h (fun e a w hq => by cases e <;> first | exact hq | exact hq.elim)

/-! ### what the loop collects -/
def sig1 (k : Nat) (a0 : ByteArray) (a2 : Int) (m : ByteArray) (x : Fin 18) : Option ByteArray := (seal_start.f a0 a2 (x.1 : Int)).bind fun s => digest_Chain.f k s (Sl.dg m x.1 : Int)
def listF (f : Fin 18 → Option ByteArray) : List (Fin 18) → Option (List ByteArray)
  | [] => some []
  | x :: l => (f x).bind fun y => (listF f l).bind fun ys => some (y :: ys)
theorem listF_spec (f : Fin 18 → Option ByteArray) : ∀ (l : List (Fin 18)) (ys : List ByteArray), listF f l = some ys → (∀ x ∈ l, f x = some ((f x).getD ByteArray.empty)) ∧ ys = l.map fun x => (f x).getD ByteArray.empty := by
  intro l
  induction l with
  | nil => intro ys h; cases h; exact ⟨fun x hx => (by cases hx), rfl⟩
  | cons x l ih =>
    intro ys h
    obtain ⟨y, hy, h⟩ := Option.bind_eq_some_iff.1 h
    obtain ⟨zs, hz, h⟩ := Option.bind_eq_some_iff.1 h
    cases h
    obtain ⟨h1, h2⟩ := ih zs hz
    refine ⟨fun z hz => ?_, by rw [h2, List.map_cons, hy]; rfl⟩
    rcases List.mem_cons.1 hz with rfl | hz
    · rw [hy]; rfl
    · exact h1 z hz

/-- Within a round: W is the world in which it began. -/
structure SgS (w : World) (a0 : ByteArray) (a2 : Int) (v : Value) (l : List ByteArray) (W A : World) : Prop where
  below : Below w.heap.size w A
  lt0 : w.heap.size < A.heap.size
  b0 : A.heap[w.heap.size]? = some (.cells #[.string a0] 9 (0, 0))
  b1 : A.heap[w.heap.size + 1]? = some (.cells #[.int .i64 a2] 3 (0, 0))
  b2 : A.heap[w.heap.size + 1 + 1]? = some (.cells #[.int .i64 0, .slice none 0 0, .slice none 0 0] 31 (0, 0))
  b3 : A.heap[w.heap.size + 1 + 1 + 1]? = some (.cells #[.int .i64 a2, v, .slice none 0 0] 31 (0, 0))
  row : Kd.R Kd.string 9 A w.heap.size (fun k => k ≠ w.heap.size) v l
  others : KeepsOthers W A

theorem SgS.cells {w : World} {a0 : ByteArray} {a2 : Int} {v : Value} {l : List ByteArray} {W A : World} (h : SgS w a0 a2 v l W A) : A.cell? ⟨w.heap.size + 1 + 1 + 1, 1, none⟩ = some v ∧ A.cell? ⟨w.heap.size, 0, none⟩ = some (.string a0) ∧ A.cell? ⟨w.heap.size + 1, 0, none⟩ = some (.int .i64 a2) :=
  ⟨(blk_cell h.b3 1).trans rfl, (blk_cell h.b0 0).trans rfl, (blk_cell h.b1 0).trans rfl⟩
theorem SgS.step {w : World} {a0 : ByteArray} {a2 : Int} {v : Value} {l : List ByteArray} {W A B : World} (h : SgS w a0 a2 v l W A) (hb : Below A.heap.size A B) : SgS w a0 a2 v l W B :=
  ⟨below_step h.below hb, Nat.lt_of_lt_of_le h.lt0 hb.size, blk_below h.b0 hb, blk_below h.b1 hb, blk_below h.b2 hb, blk_below h.b3 hb, Kd.R_below h.row hb, h.others.trans (below_others hb)⟩

/-- Behind the append, ahead of the store. -/
structure SgT (w : World) (a0 : ByteArray) (a2 : Int) (v v1 : Value) (l : List ByteArray) (W A : World) : Prop where
  below : Below w.heap.size w A
  lt0 : w.heap.size < A.heap.size
  b0 : A.heap[w.heap.size]? = some (.cells #[.string a0] 9 (0, 0))
  b1 : A.heap[w.heap.size + 1]? = some (.cells #[.int .i64 a2] 3 (0, 0))
  b2 : A.heap[w.heap.size + 1 + 1]? = some (.cells #[.int .i64 0, .slice none 0 0, .slice none 0 0] 31 (0, 0))
  b3 : A.heap[w.heap.size + 1 + 1 + 1]? = some (.cells #[.int .i64 a2, v, .slice none 0 0] 31 (0, 0))
  row : Kd.R Kd.string 9 A w.heap.size (fun k => k ≠ w.heap.size) v1 l
  others : KeepsOthers W A
theorem SgS.appended {w : World} {a0 : ByteArray} {a2 : Int} {v v1 : Value} {l l2 : List ByteArray} {W A B : World} (h : SgS w a0 a2 v l W A) (ho : Kd.R Kd.string 9 B w.heap.size (fun k => k ≠ w.heap.size) v1 l2) (hb : Below w.heap.size w B) (hg : A.grownBy B v.ownBlock) : SgT w a0 a2 v v1 l2 W B := by
  have e0 : some w.heap.size ≠ v.ownBlock := fun e => h.row.1 _ e.symm rfl
  have e1 := Kd.R_ne h.row h.b1 (by decide)
  have e2 := Kd.R_ne h.row h.b2 (by decide)
  have e3 := Kd.R_ne h.row h.b3 (by decide)
  refine ⟨hb, Nat.lt_of_lt_of_le h.lt0 hg.size, (hg.block _ (blk_lt h.b0) e0).trans h.b0, (hg.block _ (blk_lt h.b1) e1).trans h.b1, (hg.block _ (blk_lt h.b2) e2).trans h.b2, (hg.block _ (blk_lt h.b3) e3).trans h.b3, ho, h.others.trans (KeepsOthers.of_grownBy hg fun j o e ho => ?_)⟩
  obtain ⟨inner, hown⟩ := Kd.R_own h.row
  obtain ⟨cells, hc⟩ := own_typed hown j e
  rw [hc] at ho
  cases ho
  rfl
theorem SgT.stored {w : World} {a0 : ByteArray} {a2 : Int} {v v1 : Value} {l : List ByteArray} {W A : World} (h : SgT w a0 a2 v v1 l W A) : SgS w a0 a2 v1 l W (A.setCell ⟨w.heap.size + 1 + 1 + 1, 1, none⟩ v1) :=
  ⟨h.below.setCell (by show w.heap.size ≤ w.heap.size + 1 + 1 + 1; omega) _, by simpa using h.lt0, blk_far h.b0 (by show w.heap.size ≠ w.heap.size + 1 + 1 + 1; omega) _, blk_far h.b1 (by show w.heap.size + 1 ≠ w.heap.size + 1 + 1 + 1; omega) _, blk_far h.b2 (by show w.heap.size + 1 + 1 ≠ w.heap.size + 1 + 1 + 1; omega) _,
    (blk_set h.b3 1 v1).trans rfl, Kd.R_set h.row h.b3 (by decide) 1 v1, h.others.trans (KeepsOthers.setCell _ _ _)⟩

/-- Between two rounds. -/
def SgI (w : World) (a0 : ByteArray) (a2 : Int) (c : Fin 18 → ByteArray) (pre : List (Fin 18)) (W : World) : Prop := ∃ v, SgS w a0 a2 v (pre.map c) W W

theorem SgI_own (w : World) (a0 : ByteArray) (a2 : Int) (c : Fin 18 → ByteArray) (D : Nat) (hD : w.heap.size ≤ D) : OwnFrom D (SgI w a0 a2 c) := by
  rintro pre A B row ⟨v, h⟩ hg hr
  have hr' : ∀ r, row = some r → ∃ o : Obj, A.heap[r]? = some o ∧ o.isCells = false := fun r e => (hr r e).2
  exact ⟨v, h.below.grown hg h.below.size (fun k e => Nat.le_trans hD (hr k e).1), Nat.lt_of_lt_of_le h.lt0 hg.size, blk_kept hg hr' h.b0, blk_kept hg hr' h.b1, blk_kept hg hr' h.b2, blk_kept hg hr' h.b3, R_kept hg hr' h.row, KeepsOthers.refl _⟩

-- GENERATED by gen_seal.py
set_option maxHeartbeats 8000000 in
set_option maxRecDepth 100000 in
/-- Sign, where the numbers are in their bounds. -/
theorem sign_good (k : Nat) (a0 : ByteArray) (a1 a2 : Int) (m : ByteArray) (c : Fin 18 → ByteArray) (ks pa : List ByteArray) (pe : Int) (w : World) (hT : Tabs w)
    (h1 : 0 ≤ a1) (h2 : a1 ≤ 8) (h3 : 0 ≤ a2) (h4 : a2 < 2 ^ a1.toNat) (hm : m.size ≤ 9223372036854775807)
    (hc : ∀ x, sig1 k a0 a2 m x = some (c x)) (hk : seal_keys.f k a0 a1 = some ks) (hp : tree_Path.f k ks a2 = some (pa, pe)) :
    Calls Tryd.prog 14 #[.string a0, .int .i64 a1, .int .i64 a2, .string m] w fun e w' =>
      ∃ v1 v2, e = .returned (.tuple #[.agg #[.int .i64 a2, v1, v2], .int .i64 0]) ∧ Kd.R Kd.string 9 w' w.heap.size (fun k => some k ≠ v2.ownBlock) v1 ((List.finRange 18).map c) ∧ Kd.R Kd.string 9 w' w.heap.size (fun k => some k ≠ v1.ownBlock) v2 pa ∧ Below w.heap.size w w' := by
  have hj2 : a2 < wrap64 (2 ^ a1.toNat) := by
    have := pw8 a1.toNat (by omega)
    rw [IntWalk.wrap64_in _ (by omega)]
    exact h4
  have d1 : decide (a1 < 0) = false := decide_eq_false (by omega)
  have d2 : decide (a1 > 8) = false := decide_eq_false (by omega)
  have d3 : decide (a2 < 0) = false := decide_eq_false (by omega)
  have d4 : decide (wrap64 (2 ^ a1.toNat) ≤ a2) = false := decide_eq_false (by omega)
  have d5 : ¬ wrap64 (2 ^ a1.toNat) ≤ a2 := by omega
  have HT := Lib.hid hT
  clear hT
  refine (callsIn_wide (n := 5)).1 ?_
  refine callsIn_of_wp_marks Tryd.func14 rfl trivial ?_ rfl
  simp only [Tryd.ntmps14, List.size_toArray, List.length_cons, List.length_nil, Nat.reduceAdd, Nat.reduceSub, Array.replicate_succ, Array.replicate_zero, List.push_toArray, List.append_toArray, List.nil_append, List.cons_append]
  refine wpIn_wide.2 ?_
  go_wp2_with fail
  go_quiet (fail)
  go_wp2_with fail
  refine (digits_makes m _).mono ?_
  rintro e w1 ⟨rfl, rfl⟩
  go_wp2_with fail
  generalize hW : World.alloc (World.alloc _ _) _ = W0
  have hsz : W0.heap.size = w.heap.size + 5 := by rw [← hW]; simp
  have hI0 : SgI w a0 a2 c [] W0 := by
    rw [← hW]
    refine ⟨.slice none 0 0, ?_, ?_, ?_, ?_, ?_, ?_, Kd.R_nil _ _ _ _ _, KeepsOthers.refl _⟩
    · exact upB (Below.refl _ _)
    · rw [hW, hsz]; omega
    · exact blk_below (blk_new w _) (upOf inferInstance)
    · rw [(show w.heap.size + 1 = (w.alloc (.cells #[.string a0] 9)).heap.size from by simp)]; exact blk_below (blk_new _ _) (upOf inferInstance)
    · rw [(show w.heap.size + 1 + 1 = ((w.alloc (.cells #[.string a0] 9)).alloc (.cells #[.int .i64 a2] 3)).heap.size from by simp)]; exact blk_below (blk_new _ _) (upOf inferInstance)
    · rw [(show w.heap.size + 1 + 1 + 1 = ((((w.alloc (.cells #[.string a0] 9)).alloc (.cells #[.int .i64 a2] 3)).alloc (.cells #[.int .i64 0, .slice none 0 0, .slice none 0 0] 31)).drewN nq).heap.size from by simp)]; exact blk_below (blk_new _ _) (upOf inferInstance)
  have hmb : W0.cell? ⟨w.heap.size + 1 + 1 + 1 + 1, 0, none⟩ = some (.string m) := by
    rw [← hW]
    rw [(show w.heap.size + 1 + 1 + 1 + 1 = (((((w.alloc (.cells #[.string a0] 9)).alloc (.cells #[.int .i64 a2] 3)).alloc (.cells #[.int .i64 0, .slice none 0 0, .slice none 0 0] 31)).drewN nq).alloc (.cells #[.int .i64 a2, .slice none 0 0, .slice none 0 0] 31)).heap.size from by simp)]
    exact (blk_cell (blk_new _ _) 0).trans rfl
  clear hW
  refine wpIn_wide (n := 5).1 ?_
  refine' wpIn_rangeFunc_ownF (F := Fence.wide) (n := 5) rfl (by decide) (gf := 58) (lb := #[.pointer (some ⟨w.heap.size + 1 + 1 + 1 + 1, 0, none⟩)]) rfl trivial (enters_of Tryd.func58 (by kernel_rfl) rfl)
    (digits_stops 4 m hm _ W0 (by omega) hmb) (fun _ _ => trivial) (fun _ _ _ _ _ _ _ _ => trivial) (Below.refl _ _) (fun _ => rfl)
    (SgI w a0 a2 c) (fun _ _ _ => False) (SgI_own w a0 a2 c _ (by omega)) (fun _ => fun _ _ _ _ hs _ _ => hs) hI0 _ ?assign ?body ?done ?stop
  case assign =>
    intro l x W K hK
    simp only [dvals]
    gi_wp2
    exact hK
  case body =>
    rintro l pre x W ⟨v, HS⟩ hlen
    obtain ⟨s, hs, hch⟩ := Option.bind_eq_some_iff.1 (hc x)
    gi_wp2
    replace HS := HS.step ((Below.refl _ W).drew)
    refine startIn_ (n := 12) (S := fun w' => w'.cell? ⟨w.heap.size + 1 + 1 + 1, 1, none⟩ = some v ∧ w'.cell? ⟨w.heap.size, 0, none⟩ = some (.string a0) ∧ w'.cell? ⟨w.heap.size + 1, 0, none⟩ = some (.int .i64 a2)) (ds := [9, 11]) #[false, false, false, false, false, false, false, false, false, false, false, false] (by kernel_rfl) (fun _ _ h => h) (by kernel_rfl) rfl rfl HS.cells (fun hHeld => ?_)
    generalize W.drew = w5 at HS hHeld ⊢
    refine pure_ (i := 0) (N := some 36) (v := ?_) (a' := ?_) #[true, false, false, false, false, false, false, false, false, false, false, false] rfl rfl (by kernel_rfl) (fun _ _ _ h => h) (Or.inl ⟨by rfl, ?_⟩) ?_ ?_
    rotate_left
    · intro w'
      go_simp
      with_reducible rfl
    rotate_left
    · simp only [Act.put, List.setIfInBounds_toArray, List.set_cons_zero, List.set_cons_succ, i64_w, i32_w]
      rfl
    refine take_ (i := 1) (N := some 37) (v := ?_) (a' := ?_) #[true, true, false, false, false, false, false, false, false, false, false, false] rfl rfl (by kernel_rfl) (fun _ _ _ h => h) (Or.inl ⟨by rfl, ?_⟩) hHeld ?_ ?_
    rotate_left
    · rintro w' ⟨s0, s1, s2⟩
      go_simp
      with_reducible rfl
    rotate_left
    · simp only [Act.put, List.setIfInBounds_toArray, List.set_cons_zero, List.set_cons_succ, i64_w, i32_w]
      rfl
    refine take_ (i := 2) (N := some 38) (v := ?_) (a' := ?_) #[true, true, true, false, false, false, false, false, false, false, false, false] rfl rfl (by kernel_rfl) (fun _ _ _ h => h) (Or.inl ⟨by rfl, ?_⟩) hHeld ?_ ?_
    rotate_left
    · rintro w' ⟨s0, s1, s2⟩
      go_simp
      with_reducible rfl
    rotate_left
    · simp only [Act.put, List.setIfInBounds_toArray, List.set_cons_zero, List.set_cons_succ, i64_w, i32_w]
      rfl
    refine take_ (i := 3) (N := some 39) (v := ?_) (a' := ?_) #[true, true, true, true, false, false, false, false, false, false, false, false] rfl rfl (by kernel_rfl) (fun _ _ _ h => h) (Or.inl ⟨by rfl, ?_⟩) hHeld ?_ ?_
    rotate_left
    · rintro w' ⟨s0, s1, s2⟩
      go_simp
      with_reducible rfl
    rotate_left
    · simp only [Act.put, List.setIfInBounds_toArray, List.set_cons_zero, List.set_cons_succ, i64_w, i32_w]
      rfl
    refine pure_ (i := 4) (N := some 40) (v := ?_) (a' := ?_) #[true, true, true, true, true, false, false, false, false, false, false, false] rfl rfl (by kernel_rfl) (fun _ _ _ h => h) (Or.inl ⟨by rfl, ?_⟩) ?_ ?_
    rotate_left
    · intro w'
      go_simp
      with_reducible rfl
    rotate_left
    · simp only [Act.put, List.setIfInBounds_toArray, List.set_cons_zero, List.set_cons_succ, i64_w, i32_w]
      rfl
    refine pure_ (i := 6) (N := some 42) (v := ?_) (a' := ?_) #[true, true, true, true, true, false, true, false, false, false, false, false] rfl rfl (by kernel_rfl) (fun _ _ _ h => h) (Or.inl ⟨by rfl, ?_⟩) ?_ ?_
    rotate_left
    · intro w'
      go_simp
      with_reducible rfl
    rotate_left
    · simp only [Act.put, List.setIfInBounds_toArray, List.set_cons_zero, List.set_cons_succ, i64_w, i32_w]
      rfl
    refine one_ (i := 5) (N := some 41) #[true, true, true, true, true, true, true, false, false, false, false, false] rfl rfl (by kernel_rfl) (by decide) (fun K hK => ?_)
    refine goes_ Tryd.func34 (by kernel_rfl) rfl #[.string a0, .int .i64 a2, .int .i64 (x.1 : Int)] (by rfl) rfl rfl (by (try simp only [List.map_toArray, List.map_cons, List.map_nil]); first | done | rfl) ?_
    with_reducible refine (seal_start.calls a0 a2 (x.1 : Int) s _ (tabs_below HT.out HS.below) hs).mono ?_
    rintro e w6 ⟨rfl, hb⟩
    refine ⟨_, rfl, ?_⟩
    replace HS := HS.step hb
    refine hK.out _ _ HS.cells (fun hHeld => ?_)
    clear hK K
    refine norm_ (a' := ?_) ?_ ?_
    rotate_left
    · show Act.put _ (some 41) _ = _
      simp only [Act.put, List.setIfInBounds_toArray, List.set_cons_zero, List.set_cons_succ, i64_w, i32_w]
      rfl
    refine one_ (i := 7) (N := some 43) #[true, true, true, true, true, true, true, true, false, false, false, false] rfl rfl (by kernel_rfl) (by decide) (fun K hK => ?_)
    refine goes_ Tryd.func33 (by kernel_rfl) rfl #[.string s, .int .i64 (Sl.dg m x.1 : Int)] (by rfl) rfl rfl (by (try simp only [List.map_toArray, List.map_cons, List.map_nil]); first | done | rfl) ?_
    with_reducible refine (digest_Chain.calls k s (Sl.dg m x.1 : Int) (c x) _ hch).mono ?_
    rintro e w7 ⟨rfl, hb2⟩
    refine ⟨_, rfl, ?_⟩
    replace HS := HS.step hb2
    refine hK.out _ _ HS.cells (fun hHeld => ?_)
    clear hK K
    refine norm_ (a' := ?_) ?_ ?_
    rotate_left
    · show Act.put _ (some 43) _ = _
      simp only [Act.put, List.setIfInBounds_toArray, List.set_cons_zero, List.set_cons_succ, i64_w, i32_w]
      rfl
    refine one_ (i := 8) (N := some 44) #[true, true, true, true, true, true, true, true, true, false, false, false] rfl rfl (by kernel_rfl) (by decide) (fun K hK => ?_)
    refine value_ (w1 := ?_) (v := ?_) (by rfl) rfl ?_ ?_
    rotate_left 2
    · go_simp
      constructor
      · rfl
      · rfl
    refine hK.out _ _ (HS.step (below_alloc (Below.refl _ _) _)).cells (fun hHeld => ?_)
    clear hK K
    refine norm_ (a' := ?_) ?_ ?_
    rotate_left
    · show Act.put _ (some 44) _ = _
      simp only [Act.put, List.setIfInBounds_toArray, List.set_cons_zero, List.set_cons_succ, i64_w, i32_w]
      rfl
    refine last_ (i := 9) (N := some 45) #[true, true, true, true, true, true, true, true, true, true, false, false] rfl rfl (by kernel_rfl) (by decide) (fun K hK => ?_)
    refine Kd.R_append_step Kd.string (w0 := w) w.heap.size (by rfl) (.tmp 37) (.tmp 44) 22 9 (.string ⟨#[]⟩) 16 rfl Tryd.underlying22 info9 rfl (by decide) (by omega) v (pre.map c) (c x) [.string (c x)] (fun k => k ≠ w.heap.size) (fun _ => False) rfl rfl rfl (fun _ hk => hk.elim) (fun k hk => by have := HS.lt0; omega) HS.row HS.below HS.below.size (by rw [List.length_map]; omega) ?_
    intro v1 w9 ho hb hg hat
    have HS2 := HS.appended ho hb hg
    have hst := blk_cell HS2.b3 1
    have hfz := blk_frozen HS2.b3 1
    obtain ⟨Av, cv, ev⟩ := Kd.R_slice HS2.row
    subst ev
    generalize hn1 : (pre.map c ++ [c x]).length = n1 at HS2 ⊢
    refine hK.out _ _ ?_
    clear hK K
    refine norm_ (a' := ?_) ?_ ?_
    rotate_left
    · show Act.put _ (some 45) _ = _
      simp only [Act.put, List.setIfInBounds_toArray, List.set_cons_zero, List.set_cons_succ, i64_w, i32_w]
      rfl
    refine pure_ (i := 10) (N := some 46) (v := ?_) (a' := ?_) #[true, true, true, true, true, true, true, true, true, true, true, false] rfl rfl (by kernel_rfl) (fun _ _ _ h => h) (Or.inl ⟨by rfl, ?_⟩) ?_ ?_
    rotate_left
    · intro w'
      go_simp
      with_reducible rfl
    rotate_left
    · simp only [Act.put, List.setIfInBounds_toArray, List.set_cons_zero, List.set_cons_succ, i64_w, i32_w]
      rfl
    refine last_ (i := 11) (N := none) #[true, true, true, true, true, true, true, true, true, true, true, true] rfl rfl (by kernel_rfl) (by decide) (fun K hK => ?_)
    refine skip_ (w1 := ?_) (by rfl) rfl ?_ ?_
    rotate_left
    · go_simp
      rfl
    refine hK.out _ _ ?_
    clear hK K
    refine done_ (by kernel_rfl) ?_
    have HS3 := HS2.stored
    gi_wp2
    exact ⟨HS3.others, trivial, _, by rw [List.map_append]; exact ⟨HS3.below, HS3.lt0, HS3.b0, HS3.b1, HS3.b2, HS3.b3, HS3.row, KeepsOthers.refl _⟩⟩
  case done =>
    rintro D ys W hD rfl ⟨v, HS⟩ hK
    have HD := HS.others
    clear HD
    go_wp2_with fail
    replace HS := HS.step ((Below.refl _ W).drew)
    refine wp_onlyNormal ?_
    refine start_ (n := 10) (S := fun w' => w'.cell? ⟨w.heap.size, 0, none⟩ = some (.string a0) ∧ w'.cell? ⟨w.heap.size + 1, 0, none⟩ = some (.int .i64 a2)) (ds := [9]) #[false, false, false, false, false, false, false, false, false, false] (by kernel_rfl) rfl rfl HS.cells.2 (fun hHeld => ?_)
    generalize W.drew = w5 at HS hHeld ⊢
    refine take_ (i := 0) (N := some 48) (v := ?_) (a' := ?_) #[true, false, false, false, false, false, false, false, false, false] rfl rfl (by kernel_rfl) (fun _ _ _ h => h) (Or.inl ⟨by rfl, ?_⟩) hHeld ?_ ?_
    rotate_left
    · rintro w' ⟨s0, s1⟩
      go_simp
      with_reducible rfl
    rotate_left
    · simp only [Act.put, List.setIfInBounds_toArray, List.set_cons_zero, List.set_cons_succ, i64_w, i32_w]
      rfl
    refine pure_ (i := 1) (N := some 49) (v := ?_) (a' := ?_) #[true, true, false, false, false, false, false, false, false, false] rfl rfl (by kernel_rfl) (fun _ _ _ h => h) (Or.inl ⟨by rfl, ?_⟩) ?_ ?_
    rotate_left
    · intro w'
      go_simp
      with_reducible rfl
    rotate_left
    · simp only [Act.put, List.setIfInBounds_toArray, List.set_cons_zero, List.set_cons_succ, i64_w, i32_w]
      rfl
    refine take_ (i := 3) (N := some 51) (v := ?_) (a' := ?_) #[true, true, false, true, false, false, false, false, false, false] rfl rfl (by kernel_rfl) (fun _ _ _ h => h) (Or.inl ⟨by rfl, ?_⟩) hHeld ?_ ?_
    rotate_left
    · rintro w' ⟨s0, s1⟩
      go_simp
      with_reducible rfl
    rotate_left
    · simp only [Act.put, List.setIfInBounds_toArray, List.set_cons_zero, List.set_cons_succ, i64_w, i32_w]
      rfl
    refine one_ (i := 2) (N := some 50) #[true, true, true, true, false, false, false, false, false, false] rfl rfl (by kernel_rfl) (by decide) (fun K hK => ?_)
    refine goes_ Tryd.func31 (by kernel_rfl) rfl #[.string a0, .int .i64 a1] (by rfl) rfl rfl (by (try simp only [List.map_toArray, List.map_cons, List.map_nil]); first | done | rfl) ?_
    with_reducible refine (seal_keys.calls k a0 a1 ks _ (tabs_below HT.out HS.below) hk).mono ?_
    rintro e w6 ⟨v0, rfl, hks, hb⟩
    refine ⟨_, rfl, ?_⟩
    have hlow := HS.below.size
    replace HS := HS.step hb
    replace hks := Kd.R_lower hks hlow
    obtain ⟨Ak, ck, ek⟩ := Kd.R_slice hks
    subst ek
    refine hK.out _ _ HS.cells.2 (fun hHeld => ?_)
    clear hK K
    refine norm_ (a' := ?_) ?_ ?_
    rotate_left
    · show Act.put _ (some 50) _ = _
      simp only [Act.put, List.setIfInBounds_toArray, List.set_cons_zero, List.set_cons_succ, i64_w, i32_w]
      rfl
    refine one_ (i := 4) (N := some 52) #[true, true, true, true, true, false, false, false, false, false] rfl rfl (by kernel_rfl) (by decide) (fun K hK => ?_)
    refine goes_ Tryd.func35 (by kernel_rfl) rfl #[.slice Ak ks.length ck, .int .i64 a2] (by rfl) rfl rfl (by (try simp only [List.map_toArray, List.map_cons, List.map_nil]); first | done | rfl) ?_
    with_reducible refine (tree_Path.calls k (fun _ => True) Ak ck ks a2 pa pe _ (Kd.R_V hks) (tabs_below HT.out HS.below) hp).mono ?_
    rintro e w7 ⟨v2, rfl, hpa, hb2⟩
    refine ⟨_, rfl, ?_⟩
    have hlow2 := HS.below.size
    have hlt := Kd.R_lt HS.row
    replace HS := HS.step hb2
    replace hpa := Kd.R_lower hpa hlow2
    generalize w6.heap.size = n6 at hlt hpa
    refine hK.out _ _ HS.cells.2 (fun hHeld => ?_)
    clear hK K
    refine norm_ (a' := ?_) ?_ ?_
    rotate_left
    · show Act.put _ (some 52) _ = _
      simp only [Act.put, List.setIfInBounds_toArray, List.set_cons_zero, List.set_cons_succ, i64_w, i32_w]
      rfl
    refine pure_ (i := 5) (N := some 47) (v := ?_) (a' := ?_) #[true, true, true, true, true, true, false, false, false, false] rfl rfl (by kernel_rfl) (fun _ _ _ h => h) (Or.inl ⟨by rfl, ?_⟩) ?_ ?_
    rotate_left
    · intro w'
      go_simp
      with_reducible rfl
    rotate_left
    · simp only [Act.put, List.setIfInBounds_toArray, List.set_cons_zero, List.set_cons_succ, i64_w, i32_w]
      rfl
    refine pure_ (i := 6) (N := some 53) (v := ?_) (a' := ?_) #[true, true, true, true, true, true, true, false, false, false] rfl rfl (by kernel_rfl) (fun _ _ _ h => h) (Or.inl ⟨by rfl, ?_⟩) ?_ ?_
    rotate_left
    · intro w'
      go_simp
      with_reducible rfl
    rotate_left
    · simp only [Act.put, List.setIfInBounds_toArray, List.set_cons_zero, List.set_cons_succ, i64_w, i32_w]
      rfl
    refine pure_ (i := 7) (N := some 54) (v := ?_) (a' := ?_) #[true, true, true, true, true, true, true, true, false, false] rfl rfl (by kernel_rfl) (fun _ _ _ h => h) (Or.inl ⟨by rfl, ?_⟩) ?_ ?_
    rotate_left
    · intro w'
      go_simp
      with_reducible rfl
    rotate_left
    · simp only [Act.put, List.setIfInBounds_toArray, List.set_cons_zero, List.set_cons_succ, i64_w, i32_w]
      rfl
    refine pure_ (i := 8) (N := some 55) (v := ?_) (a' := ?_) #[true, true, true, true, true, true, true, true, true, false] rfl rfl (by kernel_rfl) (fun _ _ _ h => h) (Or.inl ⟨by rfl, ?_⟩) ?_ ?_
    rotate_left
    · intro w'
      go_simp
      with_reducible rfl
    rotate_left
    · simp only [Act.put, List.setIfInBounds_toArray, List.set_cons_zero, List.set_cons_succ, i64_w, i32_w]
      rfl
    have hst := blk_cell HS.b3 2
    have hfz := blk_frozen HS.b3 2
    obtain ⟨Av, cv, ev⟩ := Kd.R_slice hpa
    subst ev
    generalize hn1 : pa.length = n1 at hpa ⊢
    refine last_ (i := 9) (N := none) #[true, true, true, true, true, true, true, true, true, true] rfl rfl (by kernel_rfl) (by decide) (fun K hK => ?_)
    refine skip_ (w1 := ?_) (by rfl) rfl ?_ ?_
    rotate_left
    · go_simp
      rfl
    refine hK.out _ _ ?_
    clear hK K
    refine done_ (by kernel_rfl) ?_
    simp only [onlyNormal]
    have hb3 : (w7.setCell ⟨w.heap.size + 1 + 1 + 1, 2, none⟩ (.slice Av n1 cv)).heap[w.heap.size + 1 + 1 + 1]? = some (.cells #[.int .i64 a2, v, .slice Av n1 cv] 31 (0, 0)) := blk_set HS.b3 2 _
    have hb2 := blk_far (p := ⟨w.heap.size + 1 + 1 + 1, 2, none⟩) HS.b2 (by show w.heap.size + 1 + 1 ≠ w.heap.size + 1 + 1 + 1; omega) (.slice Av n1 cv)
    have hrow := Kd.R_set HS.row HS.b3 (by decide) 2 (.slice Av n1 cv)
    have hpa2 := Kd.R_set hpa HS.b3 (by decide) 2 (.slice Av n1 cv)
    have hbel := HS.below.setCell (p := ⟨w.heap.size + 1 + 1 + 1, 2, none⟩) (by show w.heap.size ≤ w.heap.size + 1 + 1 + 1; omega) (.slice Av n1 cv)
    have hKX := (HS.others.trans (KeepsOthers.setCell _ ⟨w.heap.size + 1 + 1 + 1, 2, none⟩ (.slice Av n1 cv))).same D _ hK rfl
    clear hHeld hst hfz hK HS hpa hks
    generalize w7.setCell ⟨w.heap.size + 1 + 1 + 1, 2, none⟩ (.slice Av n1 cv) = X at hb3 hb2 hrow hpa2 hbel hKX ⊢
    obtain ⟨A1, c1, e1⟩ := Kd.R_slice hrow
    subst e1
    generalize hn2 : (List.map c (List.finRange 18)).length = n2 at hb3 hrow hlt ⊢
    have q0 : X.cell? ⟨w.heap.size + 1 + 1 + 1, 0, none⟩ = some (.int .i64 a2) := (blk_cell hb3 0).trans rfl
    have q1 : X.cell? ⟨w.heap.size + 1 + 1 + 1, 1, none⟩ = some (.slice A1 n2 c1) := (blk_cell hb3 1).trans rfl
    have q2 : X.cell? ⟨w.heap.size + 1 + 1 + 1, 2, none⟩ = some (.slice Av n1 cv) := (blk_cell hb3 2).trans rfl
    have r0 : X.cell? ⟨w.heap.size + 1 + 1, 0, none⟩ = some (.int .i64 0) := (blk_cell hb2 0).trans rfl
    have r1 : X.cell? ⟨w.heap.size + 1 + 1, 1, none⟩ = some (.slice none 0 0) := (blk_cell hb2 1).trans rfl
    have r2 : X.cell? ⟨w.heap.size + 1 + 1, 2, none⟩ = some (.slice none 0 0) := (blk_cell hb2 2).trans rfl
    have f0 := blk_frozen hb2 0
    have f1 := blk_frozen hb2 1
    have f2 := blk_frozen hb2 2
    go_wp2_with fail
    have hKY := ((KeepsOthers.setCell X ⟨w.heap.size + 1 + 1, 0, none⟩ (.int .i64 a2)).trans ((KeepsOthers.setCell _ ⟨w.heap.size + 1 + 1, 1, none⟩ (.slice A1 n2 c1)).trans (KeepsOthers.setCell _ ⟨w.heap.size + 1 + 1, 2, none⟩ (.slice Av n1 cv)))).same D _ hKX rfl
    have z2 := blk_set (blk_set (blk_set hb2 0 (.int .i64 a2)) 1 (.slice A1 n2 c1)) 2 (.slice Av n1 cv)
    have zb := ((hbel.setCell (p := ⟨w.heap.size + 1 + 1, 0, none⟩) (by show w.heap.size ≤ w.heap.size + 1 + 1; omega) (.int .i64 a2)).setCell (p := ⟨w.heap.size + 1 + 1, 1, none⟩) (by show w.heap.size ≤ w.heap.size + 1 + 1; omega) (.slice A1 n2 c1)).setCell (p := ⟨w.heap.size + 1 + 1, 2, none⟩) (by show w.heap.size ≤ w.heap.size + 1 + 1; omega) (.slice Av n1 cv)
    have zr := Kd.R_set (Kd.R_set (Kd.R_set hrow hb2 (by decide) 0 (.int .i64 a2)) (blk_set hb2 0 (.int .i64 a2)) (by decide) 1 (.slice A1 n2 c1)) (blk_set (blk_set hb2 0 (.int .i64 a2)) 1 (.slice A1 n2 c1)) (by decide) 2 (.slice Av n1 cv)
    have zp := Kd.R_set (Kd.R_set (Kd.R_set hpa2 hb2 (by decide) 0 (.int .i64 a2)) (blk_set hb2 0 (.int .i64 a2)) (by decide) 1 (.slice A1 n2 c1)) (blk_set (blk_set hb2 0 (.int .i64 a2)) 1 (.slice A1 n2 c1)) (by decide) 2 (.slice Av n1 cv)
    refine ⟨by simp, .inl ⟨_, _, rfl, run_takeDeferred hKY, ?_⟩⟩
    generalize ((X.setCell ⟨w.heap.size + 1 + 1, 0, none⟩ (.int .i64 a2)).setCell ⟨w.heap.size + 1 + 1, 1, none⟩ (.slice A1 n2 c1)).setCell ⟨w.heap.size + 1 + 1, 2, none⟩ (.slice Av n1 cv) = Y at z2 zb zr zp hKY ⊢
    have hDY := grownBy_putObj' Y D (.deferred none)
    have hDr : ∀ r, some D = some r → ∃ o : Obj, Y.heap[r]? = some o ∧ o.isCells = false := fun r e => by cases e; exact ⟨_, hKY, rfl⟩
    replace z2 := blk_kept hDY hDr z2
    replace zr := R_kept hDY hDr zr
    replace zp := R_kept hDY hDr zp
    replace zb := zb.grown hDY zb.size (fun k e => by cases e; omega)
    generalize Y.putObj D (.deferred none) = Z at z2 zr zp zb ⊢
    have y0 : Z.cell? ⟨w.heap.size + 1 + 1, 0, none⟩ = some (.int .i64 a2) := (blk_cell z2 0).trans rfl
    have y1 : Z.cell? ⟨w.heap.size + 1 + 1, 1, none⟩ = some (.slice A1 n2 c1) := (blk_cell z2 1).trans rfl
    have y2 : Z.cell? ⟨w.heap.size + 1 + 1, 2, none⟩ = some (.slice Av n1 cv) := (blk_cell z2 2).trans rfl
    refine ⟨.tuple #[.agg #[.int .i64 a2, .slice A1 n2 c1, .slice Av n1 cv], .int .i64 0], ?_, _, _, rfl, Kd.R_flat (fun h => h) zr (fun k hk _ e => by have h1 := hlt k hk; have h2 := zp.1 k e.symm; omega), Kd.R_flat (fun h => h) zp (fun k hk h2 e => by have h1 := hlt k e.symm; omega), zb⟩
    simp [results, go_sem, y0, y1, y2]
  case stop =>
    rintro D cc pre W _ _ h _
    exact h.elim

/-- Sign, where a number is out of its bounds. -/
theorem sign_bad (a0 : ByteArray) (a1 a2 : Int) (m : ByteArray) (w : World) (hbad : a1 < 0 ∨ a1 > 8 ∨ a2 < 0 ∨ a2 ≥ 2 ^ a1.toNat) :
    Calls Tryd.prog 14 #[.string a0, .int .i64 a1, .int .i64 a2, .string m] w fun e w' =>
      e = .returned (.tuple #[.agg #[.int .i64 0, .slice none 0 0, .slice none 0 0], .int .i64 1]) ∧ Below w.heap.size w w' := by
  by_cases h1 : a1 < 0
  · have d1 : decide (a1 < 0) = true := decide_eq_true h1
    go_enter Tryd.func14, Tryd.ntmps14
    go_wp2_with fail
    go_quiet (fail)
    go_wp2_with fail
    refine bodyPost_ret (v := .tuple #[.agg #[.int .i64 0, .slice none 0 0, .slice none 0 0], .int .i64 1]) ?_ rfl ⟨rfl, ?_⟩
    · simp [results, go_sem]
    · exact ((Below.setCell (p := ⟨w.heap.size + 1 + 1, 0, none⟩) (upB (Below.refl _ _)) (by show w.heap.size ≤ w.heap.size + 1 + 1; omega) _).setCell (p := ⟨w.heap.size + 1 + 1, 1, none⟩) (by show w.heap.size ≤ w.heap.size + 1 + 1; omega) _).setCell (p := ⟨w.heap.size + 1 + 1, 2, none⟩) (by show w.heap.size ≤ w.heap.size + 1 + 1; omega) _
  · by_cases h2 : a1 > 8
    · have d1 : decide (a1 < 0) = false := decide_eq_false h1
      have d2 : decide (a1 > 8) = true := decide_eq_true h2
      go_enter Tryd.func14, Tryd.ntmps14
      go_wp2_with fail
      go_quiet (fail)
      go_wp2_with fail
      refine bodyPost_ret (v := .tuple #[.agg #[.int .i64 0, .slice none 0 0, .slice none 0 0], .int .i64 1]) ?_ rfl ⟨rfl, ?_⟩
      · simp [results, go_sem]
      · exact ((Below.setCell (p := ⟨w.heap.size + 1 + 1, 0, none⟩) (upB (Below.refl _ _)) (by show w.heap.size ≤ w.heap.size + 1 + 1; omega) _).setCell (p := ⟨w.heap.size + 1 + 1, 1, none⟩) (by show w.heap.size ≤ w.heap.size + 1 + 1; omega) _).setCell (p := ⟨w.heap.size + 1 + 1, 2, none⟩) (by show w.heap.size ≤ w.heap.size + 1 + 1; omega) _
    · by_cases h3 : a2 < 0
      · have d1 : decide (a1 < 0) = false := decide_eq_false h1
        have d2 : decide (a1 > 8) = false := decide_eq_false h2
        have d3 : decide (a2 < 0) = true := decide_eq_true h3
        go_enter Tryd.func14, Tryd.ntmps14
        go_wp2_with fail
        go_quiet (fail)
        go_wp2_with fail
        refine bodyPost_ret (v := .tuple #[.agg #[.int .i64 0, .slice none 0 0, .slice none 0 0], .int .i64 1]) ?_ rfl ⟨rfl, ?_⟩
        · simp [results, go_sem]
        · exact ((Below.setCell (p := ⟨w.heap.size + 1 + 1, 0, none⟩) (upB (Below.refl _ _)) (by show w.heap.size ≤ w.heap.size + 1 + 1; omega) _).setCell (p := ⟨w.heap.size + 1 + 1, 1, none⟩) (by show w.heap.size ≤ w.heap.size + 1 + 1; omega) _).setCell (p := ⟨w.heap.size + 1 + 1, 2, none⟩) (by show w.heap.size ≤ w.heap.size + 1 + 1; omega) _
      · have h4 : wrap64 (2 ^ a1.toNat) ≤ a2 := by
          have := pw8 a1.toNat (by omega)
          rw [IntWalk.wrap64_in _ (by omega)]
          omega
        have h5 : ¬ a2 < wrap64 (2 ^ a1.toNat) := by omega
        have d1 : decide (a1 < 0) = false := decide_eq_false h1
        have d2 : decide (a1 > 8) = false := decide_eq_false h2
        have d3 : decide (a2 < 0) = false := decide_eq_false h3
        have d4 : decide (wrap64 (2 ^ a1.toNat) ≤ a2) = true := decide_eq_true h4
        clear hbad
        go_enter Tryd.func14, Tryd.ntmps14
        go_wp2_with fail
        go_quiet (fail)
        go_wp2_with fail
        refine bodyPost_ret (v := .tuple #[.agg #[.int .i64 0, .slice none 0 0, .slice none 0 0], .int .i64 1]) ?_ rfl ⟨rfl, ?_⟩
        · simp [results, go_sem]
        · exact ((Below.setCell (p := ⟨w.heap.size + 1 + 1, 0, none⟩) (upB (Below.refl _ _)) (by show w.heap.size ≤ w.heap.size + 1 + 1; omega) _).setCell (p := ⟨w.heap.size + 1 + 1, 1, none⟩) (by show w.heap.size ≤ w.heap.size + 1 + 1; omega) _).setCell (p := ⟨w.heap.size + 1 + 1, 2, none⟩) (by show w.heap.size ≤ w.heap.size + 1 + 1; omega) _

def seal_Sign.f (k : Nat) (a0 : ByteArray) (a1 a2 : Int) (a3 : ByteArray) : Option (Int × List ByteArray × List ByteArray × Int) :=
  if a1 < 0 ∨ a1 > 8 ∨ a2 < 0 ∨ a2 ≥ 2 ^ a1.toNat then some (0, [], [], 1)
  else if a3.size ≤ 9223372036854775807 then (listF (sig1 k a0 a2 a3) (List.finRange 18)).bind fun sg => (seal_keys.f k a0 a1).bind fun ks => (tree_Path.f k ks a2).bind fun p => some (a2, sg, p.1, 0)
  else none
theorem seal_Sign.calls (k : Nat) (a0 : ByteArray) (a1 a2 : Int) (a3 : ByteArray) (r1 : Int) (r2 r3 : List ByteArray) (r4 : Int) (w : World) (hT : Tabs w) (h : seal_Sign.f k a0 a1 a2 a3 = some (r1, r2, r3, r4)) :
    Calls Tryd.prog 14 #[.string a0, .int .i64 a1, .int .i64 a2, .string a3] w fun e w' => ∃ v1 v2, e = .returned (.tuple #[.agg #[.int .i64 r1, v1, v2], .int .i64 r4]) ∧ Kd.R Kd.string 9 w' w.heap.size (fun k => some k ≠ v2.ownBlock) v1 r2 ∧ Kd.R Kd.string 9 w' w.heap.size (fun k => some k ≠ v1.ownBlock) v2 r3 ∧ Below w.heap.size w w' := by
  unfold seal_Sign.f at h
  split at h
  · rename_i hbad
    cases h
    refine (sign_bad a0 a1 a2 a3 w hbad).mono ?_
    rintro e w' ⟨rfl, hb⟩
    exact ⟨_, _, rfl, Kd.R_nil _ _ _ _ _, Kd.R_nil _ _ _ _ _, hb⟩
  · rename_i hgood
    split at h
    · rename_i hm
      obtain ⟨sg, hs, h⟩ := Option.bind_eq_some_iff.1 h
      obtain ⟨ks, hk, h⟩ := Option.bind_eq_some_iff.1 h
      obtain ⟨⟨pa, pe⟩, hp, h⟩ := Option.bind_eq_some_iff.1 h
      cases h
      obtain ⟨s1, s2⟩ := listF_spec _ _ _ hs
      rw [s2]
      exact sign_good k a0 a1 a2 a3 (fun x => (sig1 k a0 a2 a3 x).getD ByteArray.empty) ks pa pe w hT (by omega) (by omega) (by omega) (by omega) hm (fun x => s1 x (List.mem_finRange x)) hk hp
    · cases h
end Go.Proofs.YtoimnllcniefoaaDoor.P
