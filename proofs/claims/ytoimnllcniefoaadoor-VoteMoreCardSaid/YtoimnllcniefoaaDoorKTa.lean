import Derived.Test.YtoimnllcniefoaaDoorKD
import Derived.RegionTactic
import Derived.BigRegion
import Derived.Deep.QuietTactic
import Derived.BigQuiet
import Derived.Deep.RegionWith
import Derived.Laws.EntriesVeiled
set_option linter.unusedVariables false
set_option linter.unusedSimpArgs false
/- tree.half, tree.node, (digests).proper and what they call: what each call answers; only new memory is made. -/
namespace Go.Proofs.YtoimnllcniefoaaDoor.P
open Go.RowKit Go.Proofs.YtoimnllcniefoaaDoor Go.Proofs.YtoimnllcniefoaaDoorW.PrintWords Go.Proofs.YtoimnllcniefoaaDoorW.PrintLast Go.Proofs.YtoimnllcniefoaaDoorW.PrintMore
set_option linter.unusedVariables false

set_option maxHeartbeats 1000000 in
theorem tree_half_any (n : Nat) (h : n ≤ 1152921504606846976) (w : World) :
    Calls Tryd.prog 55 #[.int .i64 (n : Int)] w fun e w' => e = .returned (.int .i64 (Tr.half n)) ∧ w = w' := by
  go_enter Tryd.func55, Tryd.ntmps55
  go_wp2
  go_loop [3] (fun v => ∃ k f : Nat, v = .int .i64 k ∧ 1 ≤ k ∧ k ≤ 1152921504606846976 ∧ n ≤ k * 2 ^ f ∧ Hid (Tr.halfGo f k n = Tr.half n)) (fun v => n - (intOf v).toNat)
  case atStart => exact ⟨1, 64, rfl, by decide, by decide, by omega, Lib.hid rfl⟩
  case round =>
    obtain ⟨k, f, rfl, h1, h2, h3, HG⟩ := hrel
    by_cases hlt : k * 2 < n
    · have hlt' : (k : Int) * 2 < (n : Int) := by omega
      cases f with
      | zero => exfalso; simp at h3; omega
      | succ f =>
        have hg : Tr.halfGo f (k * 2) n = Tr.half n := by
          rw [← HG.out]; simp only [Tr.halfGo]; rw [if_pos hlt]
        have HG' := Lib.hid hg
        have h3' : n ≤ k * 2 * 2 ^ f := by rw [Nat.pow_succ] at h3; rw [Nat.mul_assoc, Nat.mul_comm 2]; exact h3
        clear hg HG h3
        go_wp2
        exact ⟨⟨k * 2, f, by simp, by omega, by omega, h3', HG'⟩, by simp [intOf]; omega⟩
    · have hg : Tr.half n = k := by rw [← HG.out]; exact Tr.halfGo_done f k n hlt
      have HG' := Lib.hid hg
      have hlt' : (n : Int) ≤ (k : Int) * 2 := by omega
      clear hg HG h3
      go_wp2
      go_ret
      exact ⟨by rw [HG'.out]; rfl, rfl⟩

/-- A row of strings that lies in a block. -/
theorem C_of_block {w : World} {b : Nat} {l : List ByteArray} {T : TypeId} {fz : Nat × Nat} {cs : Array Value} (h : w.heap[b]? = some (.cells cs T fz)) (hc : cs = (l.map Value.string).toArray) (hl : l.length ≤ 9223372036854775807) : Kd.C Kd.string w (some ⟨b, 0, none⟩) l.length l := by
  refine Kd.C_of_reads (d := ByteArray.empty) (h1 := fun _ => rfl) ⟨rfl, hl, fun hn => ⟨_, rfl, fun j hj => ?_⟩⟩
  have ha : (⟨b, 0, none⟩ : Addr).add j = ⟨b, j, none⟩ := by unfold Addr.add; split <;> simp_all
  subst hc
  rw [ha, Lib.cell_of_heap h, List.getElem?_toArray, List.getElem?_map, List.getElem?_eq_getElem hj]
  simp [List.getD, List.getElem?_eq_getElem hj]

theorem joined3_le (a b : ByteArray) (h : a.size + b.size ≤ 140737488351300) : (Dg.joinedL [Tr.wNode, a, b]).length ≤ 140737488355328 := by
  have h1 := Dg.piece_le a (by omega)
  have h2 := Dg.piece_le b (by omega)
  have h3 := Dg.piece_le Tr.wNode (by decide)
  have h4 : Tr.wNode.size = 4 := rfl
  simp only [Dg.joinedL, List.flatMap_cons, List.flatMap_nil, List.length_append, List.length_nil]
  omega

theorem joined2_le (a : ByteArray) (h : a.size ≤ 140737488351300) : (Dg.joinedL [Tr.wLeaf, a]).length ≤ 140737488355328 := by
  have h1 := Dg.piece_le a (by omega)
  have h3 := Dg.piece_le Tr.wLeaf (by decide)
  have h4 : Tr.wLeaf.size = 4 := rfl
  simp only [Dg.joinedL, List.flatMap_cons, List.flatMap_nil, List.length_append, List.length_nil]
  omega

/-- digest.List of a literal of three strings that was just made. -/
theorem list3_any (x a b : ByteArray) (w : World) (hT : Tabs w) (hj : (Dg.joinedL [x, a, b]).length ≤ 140737488355328) :
    Calls Tryd.prog 54 #[.slice (some ⟨w.heap.size, 0, none⟩) 3 3] (w.alloc (.cells #[.string x, .string a, .string b] 9)) fun e w' => e = .returned (.string (Dg.list [x, a, b])) ∧ Below w.heap.size w w' := by
  have hb : Below w.heap.size w (w.alloc (.cells #[.string x, .string a, .string b] 9)) := (Below.refl _ _).alloc (Nat.le_refl _) _
  have h := digest_list_any (some ⟨w.heap.size, 0, none⟩) 3 [x, a, b] (w.alloc (.cells #[.string x, .string a, .string b] 9)) (C_of_block (l := [x, a, b]) (heap_alloc_new w _) rfl (by simp)) (by simp) (tabs_below hT hb) hj
  exact h.mono fun e w' ⟨he, hw⟩ => ⟨he, hb.trans (hw.mono hb.size)⟩

theorem list2_any (x a : ByteArray) (w : World) (hT : Tabs w) (hj : (Dg.joinedL [x, a]).length ≤ 140737488355328) :
    Calls Tryd.prog 54 #[.slice (some ⟨w.heap.size, 0, none⟩) 2 2] (w.alloc (.cells #[.string x, .string a] 9)) fun e w' => e = .returned (.string (Dg.list [x, a])) ∧ Below w.heap.size w w' := by
  have hb : Below w.heap.size w (w.alloc (.cells #[.string x, .string a] 9)) := (Below.refl _ _).alloc (Nat.le_refl _) _
  have h := digest_list_any (some ⟨w.heap.size, 0, none⟩) 2 [x, a] (w.alloc (.cells #[.string x, .string a] 9)) (C_of_block (l := [x, a]) (heap_alloc_new w _) rfl (by simp)) (by simp) (tabs_below hT hb) hj
  exact h.mono fun e w' ⟨he, hw⟩ => ⟨he, hb.trans (hw.mono hb.size)⟩

set_option maxHeartbeats 1000000 in
theorem tree_node_any (a b : ByteArray) (h : a.size + b.size ≤ 140737488351300) (w : World) (hT : Tabs w) :
    Calls Tryd.prog 56 #[.string a, .string b] w fun e w' => e = .returned (.string (Tr.node a b)) ∧ Below w.heap.size w w' := by
  have HC := Lib.hid (list3_any Tr.wNode a b w hT (joined3_le a b h))
  clear hT
  go_enter Tryd.func56, Tryd.ntmps56
  go_wp2_with fail
  refine (HC.out).mono ?_
  rintro e w' ⟨rfl, hb⟩
  go_wp2
  go_ret
  exact ⟨rfl, hb⟩

/-- Is there a string that is no digest? -/
def IdxPost (l : List ByteArray) (w : World) (e : Ending) (w' : World) : Prop :=
  ∃ n : Int, decide (0 ≤ n) = !(Tr.proper l) ∧ e = .returned (.int .i64 n) ∧ Below w.heap.size w w'

set_option maxHeartbeats 1000000 in
theorem proper1_any (s : ByteArray) (w : World) :
    Calls Tryd.prog 83 #[.string s] w fun e w' => e = .returned (.bool (!Dg.isD s)) ∧ Below w.heap.size w w' := by
  have h := digest_Is.calls s (Dg.isD s) w rfl
  have HC := Lib.hid h
  clear h
  generalize Dg.isD s = b at HC ⊢
  go_enter Tryd.func83, Tryd.ntmps83
  go_wp2_with fail
  refine (HC.out).mono ?_
  rintro e w' ⟨rfl, hb⟩
  go_wp2
  go_ret
  exact ⟨rfl, hb⟩

set_option maxHeartbeats 2000000 in
theorem indexFunc_any (A0 : Option Addr) (c0 : Nat) (l : List ByteArray) (w : World) (hr : Kd.C Kd.string w A0 l.length l) :
    Calls Tryd.prog 95 #[.slice A0 l.length c0, .func (.func 83) #[] #[]] w fun e w' => IdxPost l w e w' := by
  have hl : l.length ≤ 9223372036854775807 := hr.2.1
  have HR := Lib.hid hr
  clear hr
  go_enter Tryd.func95, Tryd.ntmps95
  go_wp2
  go_loopw [8] (fun i wq => ∃ k : Nat, k ≤ l.length ∧ i = .int .i64 k ∧ Hid (Tr.proper (l.take k) = true) ∧ Hid (Below w.heap.size w wq)) (fun i _ => l.length - (intOf i).toNat)
  case atStart => exact ⟨0, Nat.zero_le _, rfl, Lib.hid (by simp [Tr.proper]), Lib.hid (Below.refl _ _)⟩
  case round =>
    obtain ⟨k, hk, rfl, HP, HB⟩ := hrel
    by_cases hlt : k < l.length
    · obtain ⟨ad, rfl, hc⟩ := at_str (Kd.C_below HR.out HB.out) k hlt hlt
      have hstep : Tr.proper (l.take (k + 1)) = Dg.isD l[k] := by
        have h := HP.out
        unfold Tr.proper at h ⊢
        rw [List.take_succ_eq_append_getElem hlt, List.all_append, h]
        simp
      have hall : Dg.isD l[k] = false → Tr.proper l = false := by
        intro h
        rw [← hstep] at h
        cases hp : Tr.proper l with
        | false => rfl
        | true =>
          unfold Tr.proper at hp h
          rw [List.all_eq_true] at hp
          have : (l.take (k + 1)).all Dg.isD = true := List.all_eq_true.2 fun x hx => hp x (List.mem_of_mem_take hx)
          rw [this] at h; cases h
      have HS := Lib.hid hstep
      have HALL := Lib.hid hall
      clear hstep hall
      have hcall := proper1_any l[k]
      generalize l[k] = s at hc HS HALL hcall
      generalize hb0 : Dg.isD s = b at HS HALL hcall
      have HC := Lib.hid hcall
      clear hcall hb0
      go_wp2_with fail
      refine (HC.out _).mono ?_
      rintro e w1 ⟨rfl, hb⟩
      have HB1 := Lib.hid (HB.out.trans (hb.mono HB.out.size))
      clear hb hc
      cases b with
      | true =>
        go_wp2
        go_roundw
        case rel => exact ⟨k + 1, by omega, by simp, HS, HB1⟩
        case measure => simp [intOf]; omega
      | false =>
        have hpf := HALL.out rfl
        have HPF := Lib.hid hpf
        clear hpf HALL
        go_wp2
        go_ret
        exact ⟨k, by rw [HPF.out]; simp, rfl, HB1.out⟩
    · obtain rfl : k = l.length := by omega
      have hall : Tr.proper l = true := by
        have := HP.out
        rwa [List.take_length] at this
      have HALL := Lib.hid hall
      clear hall hlt hk
      go_wp2
      go_ret
      exact ⟨-1, by rw [HALL.out]; decide, rfl, HB.out⟩

set_option maxHeartbeats 1000000 in
theorem containsFunc_any (A0 : Option Addr) (c0 : Nat) (l : List ByteArray) (w : World) (hr : Kd.C Kd.string w A0 l.length l) :
    Calls Tryd.prog 82 #[.slice A0 l.length c0, .func (.func 83) #[] #[]] w fun e w' => e = .returned (.bool (!Tr.proper l)) ∧ Below w.heap.size w w' := by
  have HC := Lib.hid (indexFunc_any A0 c0 l w hr)
  clear hr
  go_enter Tryd.func82, Tryd.ntmps82
  go_wp2_with fail
  refine (HC.out).mono ?_
  rintro e w' ⟨n, hn, rfl, hb⟩
  have HN := Lib.hid hn
  clear hn
  go_wp2
  go_ret
  refine ⟨?_, hb⟩
  rw [← HN.out]
  rfl

set_option maxHeartbeats 1000000 in
theorem proper_any (A0 : Option Addr) (c0 : Nat) (l : List ByteArray) (w : World) (hr : Kd.C Kd.string w A0 l.length l) :
    Calls Tryd.prog 64 #[.slice A0 l.length c0] w fun e w' => e = .returned (.bool (Tr.proper l)) ∧ Below w.heap.size w w' := by
  have HC := Lib.hid (containsFunc_any A0 c0 l w hr)
  clear hr
  generalize Tr.proper l = b at HC ⊢
  go_enter Tryd.func64, Tryd.ntmps64
  go_wp2_with fail
  refine (HC.out).mono ?_
  rintro e w' ⟨rfl, hb⟩
  go_wp2
  go_ret
  exact ⟨by simp, hb⟩
end Go.Proofs.YtoimnllcniefoaaDoor.P
/- The proof's state: (*digests).pop, (*proof).next, (*proof).done. -/
namespace Go.Proofs.YtoimnllcniefoaaDoor.P
open Go.RowKit Go.Proofs.YtoimnllcniefoaaDoor Go.Proofs.YtoimnllcniefoaaDoorW.PrintWords Go.Proofs.YtoimnllcniefoaaDoorW.PrintLast Go.Proofs.YtoimnllcniefoaaDoorW.PrintMore
set_option linter.unusedVariables false

/-- A slice's address leads to these strings. -/
def RowIs (w : World) (A : Option Addr) (l : List ByteArray) : Prop :=
  (A = none ∧ l = []) ∨ ∃ rb cur, A = some ⟨rb, 0, none⟩ ∧ w.heap[rb]? = some (.cells cur 9 (0, 0)) ∧ cur.toList.take l.length = l.map Value.string

/-- What is left of a proof: the list of digests in its block, the proof's own block. -/
def PS (w : World) (pb lb : Nat) (l : List ByteArray) (sh : Bool) : Prop :=
  ∃ A c, w.heap[lb]? = some (.cells #[.slice A l.length c] 95 (0, 0)) ∧ l.length ≤ c ∧ c ≤ 9223372036854775807 ∧ RowIs w A l ∧
    w.heap[pb]? = some (.cells #[.pointer (some ⟨lb, 0, none⟩), .bool sh] 100 (0, 0))

theorem rowIs_kept {w w' : World} {A : Option Addr} {l : List ByteArray} (h : RowIs w A l) (hk : ∀ (rb : Nat) (cur : Array Value), w.heap[rb]? = some (.cells cur 9 (0, 0)) → w'.heap[rb]? = some (.cells cur 9 (0, 0))) : RowIs w' A l := by
  rcases h with h | ⟨rb, cur, h1, h2, h3⟩
  · exact .inl h
  · exact .inr ⟨rb, cur, h1, hk rb cur h2, h3⟩

theorem rowIs_dropLast {w : World} {A : Option Addr} {l : List ByteArray} (h : RowIs w A l) : RowIs w A l.dropLast := by
  rcases h with ⟨h1, h2⟩ | ⟨rb, cur, h1, h2, h3⟩
  · exact .inl ⟨h1, by rw [h2]; rfl⟩
  · refine .inr ⟨rb, cur, h1, h2, ?_⟩
    have e : l.dropLast = l.take (l.length - 1) := List.dropLast_eq_take
    rw [e, List.map_take, ← h3, List.take_take, List.length_take]

/-- The last string's cell. -/
theorem rowIs_last {w : World} {A : Option Addr} {l : List ByteArray} (h : RowIs w A l) (hne : l ≠ []) : ∃ rb, A = some ⟨rb, 0, none⟩ ∧ w.cell? ⟨rb, l.length - 1, none⟩ = some (.string (Tr.last l)) := by
  rcases h with ⟨h1, h2⟩ | ⟨rb, cur, h1, h2, h3⟩
  · exact absurd h2 hne
  · refine ⟨rb, h1, ?_⟩
    have hl : 0 < l.length := List.length_pos_iff.2 hne
    rw [Lib.cell_of_heap h2]
    have h4 : (cur.toList.take l.length)[l.length - 1]? = (l.map Value.string)[l.length - 1]? := by rw [h3]
    rw [List.getElem?_take_of_lt (by omega), List.getElem?_map] at h4
    rw [← Array.getElem?_toList, h4]
    unfold Tr.last
    rw [List.getLast?_eq_getElem?]
    rw [List.getElem?_eq_getElem (by omega)]
    rfl

set_option maxHeartbeats 1000000 in
theorem pop_empty (lb c : Nat) (A : Option Addr) (w : World) (h : w.heap[lb]? = some (.cells #[.slice A 0 c] 95 (0, 0))) :
    Calls Tryd.prog 84 #[.pointer (some ⟨lb, 0, none⟩)] w fun e w' => e = .returned (.string ⟨#[]⟩) ∧ w = w' := by
  have c0 := cell_of_one h
  clear h
  go_enter Tryd.func84, Tryd.ntmps84
  go_wp2
  go_ret
  exact ⟨rfl, rfl⟩

set_option maxHeartbeats 1000000 in
theorem pop_some (lb c n rb : Nat) (x : ByteArray) (w : World) (h : w.heap[lb]? = some (.cells #[.slice (some ⟨rb, 0, none⟩) (n + 1) c] 95 (0, 0))) (hn : n + 1 ≤ c) (hc : c ≤ 9223372036854775807)
    (hx : w.cell? ⟨rb, n, none⟩ = some (.string x)) :
    Calls Tryd.prog 84 #[.pointer (some ⟨lb, 0, none⟩)] w fun e w' => e = .returned (.string x) ∧ ∃ nd, w' = (w.drewN nd).setCell ⟨lb, 0, none⟩ (.slice (some ⟨rb, 0, none⟩) n c) := by
  have c0 := cell_of_one h
  have f0 := free_of_one h
  clear h
  have hw1 : IntKind.i64.wrap ((n : Int) + 1 - 1) = (n : Int) := by rw [IntKind.wrap_i64]; omega
  go_enter Tryd.func84, Tryd.ntmps84
  go_wp2
  go_quiet (fail)
  go_wp2
  go_region
  go_wp2
  go_ret
  exact ⟨rfl, _, rfl⟩

theorem kept_set {w : World} {S : Nat → Prop} {b : Nat} (hb : S b) (nd j : Nat) (v : Value) : Kept w ((w.drewN nd).setCell ⟨b, j, none⟩ v) S :=
  Kept.setCell (Kept.drewN (Kept.refl w S) nd) (p := ⟨b, j, none⟩) (.inl hb) v

/-- What a call did to the proof's blocks, and to nothing else that was there. -/
def Moved (B pb lb : Nat) (w w' : World) : Prop := Below B w w' ∧ Kept w w' (fun k => k = pb ∨ k = lb)

theorem Moved.refl (B pb lb : Nat) (w : World) : Moved B pb lb w w := ⟨Below.refl _ _, Kept.refl _ _⟩
theorem Moved.trans {B pb lb : Nat} {w w1 w2 : World} (h : Moved B pb lb w w1) (k : Moved B pb lb w1 w2) : Moved B pb lb w w2 :=
  ⟨h.1.trans k.1, h.2.then_ k.2 (fun _ hk => .inl hk)⟩
theorem Moved.below {B pb lb : Nat} {w w1 w2 : World} (h : Moved B pb lb w w1) (hB : B ≤ w1.heap.size) (k : Below w1.heap.size w1 w2) : Moved B pb lb w w2 :=
  ⟨h.1.trans (k.mono hB), h.2.below k⟩
theorem Moved.block {B pb lb : Nat} {w w' : World} (h : Moved B pb lb w w') {k : Nat} {o : Obj} (ho : w.heap[k]? = some o) (h1 : k ≠ pb) (h2 : k ≠ lb) : w'.heap[k]? = some o :=
  (h.2.2 k (lt_of_block ho) (fun hk => hk.elim h1 h2)).trans ho

theorem blocks_ne {w : World} {a b : Nat} {c d : Array Value} {T U : TypeId} {fz fy : Nat × Nat} (h : w.heap[a]? = some (.cells c T fz)) (k : w.heap[b]? = some (.cells d U fy)) (hn : T ≠ U) : a ≠ b := by
  rintro rfl
  rw [h] at k
  injection k with k
  injection k with _ k _
  exact hn k

theorem PS.ne {w : World} {pb lb : Nat} {l : List ByteArray} {sh : Bool} (h : PS w pb lb l sh) : pb ≠ lb := by
  obtain ⟨A, c, h1, _, _, _, h2⟩ := h
  exact blocks_ne h2 h1 (by decide)

theorem PS.kept {w w' : World} {pb lb : Nat} {l : List ByteArray} {sh : Bool} (h : PS w pb lb l sh) (k : Below w.heap.size w w') : PS w' pb lb l sh := by
  obtain ⟨A, c, h1, h2, h3, h4, h5⟩ := h
  exact ⟨A, c, (k.block _ (lt_of_block h1)).trans h1, h2, h3, rowIs_kept h4 (fun rb cur hr => (k.block _ (lt_of_block hr)).trans hr), (k.block _ (lt_of_block h5)).trans h5⟩

set_option maxHeartbeats 1000000 in
/-- pop, at the proof's state. -/
theorem pop_any (pb lb : Nat) (l : List ByteArray) (sh : Bool) (w : World) (h : PS w pb lb l sh) (B : Nat) (hB : B ≤ lb) :
    Calls Tryd.prog 84 #[.pointer (some ⟨lb, 0, none⟩)] w fun e w' => e = .returned (.string (Tr.last l)) ∧ PS w' pb lb l.dropLast sh ∧ Moved B pb lb w w' := by
  have hne := h.ne
  have h0 := h
  obtain ⟨A, c, h1, h2, h3, h4, h5⟩ := h
  cases hl : l with
  | nil =>
    subst hl
    refine (pop_empty lb c A w h1).mono fun e w' ⟨he, hw⟩ => ?_
    subst hw
    exact ⟨he, h0, Moved.refl _ _ _ _⟩
  | cons a r =>
    have hn : l ≠ [] := by rw [hl]; simp
    have hlen : l.length = (l.length - 1) + 1 := by rw [hl]; simp
    obtain ⟨rb, hA, hx⟩ := rowIs_last h4 hn
    subst hA
    rw [hlen] at h1
    rw [← hl]
    refine (pop_some lb c (l.length - 1) rb (Tr.last l) w h1 (by omega) h3 hx).mono fun e w' ⟨he, nd, hw⟩ => ?_
    subst hw
    have hrow : ∀ (k : Nat) (o : Obj), k ≠ lb → w.heap[k]? = some o → ((w.drewN nd).setCell ⟨lb, 0, none⟩ (.slice (some ⟨rb, 0, none⟩) (l.length - 1) c)).heap[k]? = some o := fun k o hk ho => by
      rw [Below.heap_setCell _ _ _ _ hk]; exact ho
    refine ⟨he, ⟨some ⟨rb, 0, none⟩, c, ?_, ?_, h3, ?_, ?_⟩, ?_, ?_⟩
    · have hd : (w.drewN nd).heap[lb]? = some (.cells #[.slice (some ⟨rb, 0, none⟩) (l.length - 1 + 1) c] 95 (0, 0)) := h1
      rw [one_setCell hd, List.length_dropLast]
    · rw [List.length_dropLast]; omega
    · refine rowIs_dropLast (rowIs_kept h4 fun rb' cur hr => hrow rb' _ ?_ hr)
      exact blocks_ne hr h1 (by decide)
    · exact hrow pb _ hne h5
    · exact (below_drewN (Below.refl B w) nd).setCell (p := ⟨lb, 0, none⟩) hB _
    · exact kept_set (.inr rfl) nd 0 _

set_option maxHeartbeats 1000000 in
/-- next, at the proof's state. -/
theorem next_any (pb lb : Nat) (l : List ByteArray) (sh : Bool) (w : World) (h : PS w pb lb l sh) (B : Nat) (hB : B ≤ lb) (hB2 : B ≤ pb) :
    Calls Tryd.prog 66 #[.pointer (some ⟨pb, 0, none⟩)] w fun e w' => e = .returned (.string (Tr.last l)) ∧ PS w' pb lb l.dropLast (sh || (Tr.last l).size == 0) ∧ Moved B pb lb w w' := by
  have HC := Lib.hid (pop_any pb lb l sh w h B hB)
  have h0 := h
  obtain ⟨A, c, h1, h2, h3, h4, h5⟩ := h
  have c0 : w.cell? ⟨pb, 0, none⟩ = some (.pointer (some ⟨lb, 0, none⟩)) := by rw [Lib.cell_of_heap h5]; rfl
  clear h0 h1 h2 h3 h4 h5
  generalize Tr.last l = x at HC ⊢
  go_enter Tryd.func66, Tryd.ntmps66
  go_wp2_with fail
  refine (HC.out).mono ?_
  rintro e w1 ⟨rfl, hp, hm⟩
  have hq := hp
  obtain ⟨A, c, h1, h2, h3, h4, h5⟩ := hp
  have c1 : w1.cell? ⟨pb, 1, none⟩ = some (.bool sh) := by rw [Lib.cell_of_heap h5]; rfl
  have f1 := Lib.frozen_of_heap h5 1
  have hset : ∀ b : Bool, PS (w1.setCell ⟨pb, 1, none⟩ (.bool b)) pb lb l.dropLast b := fun b => by
    refine ⟨A, c, ?_, h2, h3, rowIs_kept h4 fun rb cur hr => ?_, ?_⟩
    · rw [Below.heap_setCell _ _ _ _ hq.ne.symm]; exact h1
    · rw [Below.heap_setCell _ _ _ _ (blocks_ne hr h5 (by decide))]; exact hr
    · rw [Lib.heap_setCell_same h5]; rfl
  have hmv : ∀ b : Bool, Moved B pb lb w (w1.setCell ⟨pb, 1, none⟩ (.bool b)) := fun b =>
    ⟨hm.1.setCell (p := ⟨pb, 1, none⟩) hB2 _, hm.2.setCell (p := ⟨pb, 1, none⟩) (.inl (.inl rfl)) _⟩
  have HSET := Lib.hid hset
  have HMV := Lib.hid hmv
  clear hset hmv hq h1 h2 h3 h4 h5 hm HC c0
  cases sh with
  | true =>
    go_wp2
    go_ret
    exact ⟨rfl, HSET.out true, HMV.out true⟩
  | false =>
    by_cases hx : x.toList = []
    · have hxe : !x.toList.isEmpty = false := by simp [hx]
      have hsz : x.size = 0 := by
        rw [ByteArray.toList_eq] at hx
        have := congrArg List.length hx
        simpa using this
      have HSZ := Lib.hid hsz
      clear hsz
      go_wp2
      go_ret
      rw [HSZ.out]
      exact ⟨rfl, HSET.out true, HMV.out true⟩
    · have hxe : x.toList.isEmpty = false := by simp [hx]
      have hsz : (x.size == 0) = false := by
        rw [beq_eq_false_iff_ne]
        intro h0
        apply hx
        rw [ByteArray.toList_eq]
        exact List.eq_nil_of_length_eq_zero (by simpa using h0)
      have HSZ := Lib.hid hsz
      clear hsz
      go_wp2
      go_ret
      rw [HSZ.out]
      exact ⟨rfl, HSET.out false, HMV.out false⟩
end Go.Proofs.YtoimnllcniefoaaDoor.P
/- tree.Check and its inner function. -/
namespace Go.Proofs.YtoimnllcniefoaaDoor.P
open Go.RowKit Go.Proofs.YtoimnllcniefoaaDoor Go.Proofs.YtoimnllcniefoaaDoorW.PrintWords Go.Proofs.YtoimnllcniefoaaDoorW.PrintLast Go.Proofs.YtoimnllcniefoaaDoorW.PrintMore
set_option linter.unusedVariables false

set_option maxHeartbeats 1000000 in
theorem done_any (pb lb : Nat) (l : List ByteArray) (sh : Bool) (w : World) (h : PS w pb lb l sh) :
    Calls Tryd.prog 67 #[.pointer (some ⟨pb, 0, none⟩)] w fun e w' => e = .returned (.bool (!sh && l.length == 0)) ∧ w = w' := by
  obtain ⟨A, c, h1, h2, h3, h4, h5⟩ := h
  have c0 : w.cell? ⟨pb, 0, none⟩ = some (.pointer (some ⟨lb, 0, none⟩)) := by rw [Lib.cell_of_heap h5]; rfl
  have c1 : w.cell? ⟨pb, 1, none⟩ = some (.bool sh) := by rw [Lib.cell_of_heap h5]; rfl
  have c2 := cell_of_one h1
  clear h1 h2 h3 h4 h5
  cases sh with
  | true =>
    go_enter Tryd.func67, Tryd.ntmps67
    go_wp2
    go_ret
    exact ⟨rfl, rfl⟩
  | false =>
    cases l with
    | nil =>
      go_enter Tryd.func67, Tryd.ntmps67
      go_wp2
      go_ret
      exact ⟨rfl, rfl⟩
    | cons a r =>
      rw [List.length_cons] at c2
      have hb : (((r.length + 1 : Nat) : Int) == 0) = false := beq_eq_false_iff_ne.mpr (by omega)
      have hb2 : ((r.length : Int) + 1 == 0) = false := beq_eq_false_iff_ne.mpr (by omega)
      go_enter Tryd.func67, Tryd.ntmps67
      go_wp2
      go_ret
      exact ⟨by simp, rfl⟩

/-- What Check's inner function has captured. -/
def CkEnv (w : World) (x : ByteArray) (lf vp vu pb : Nat) : Prop :=
  w.heap[lf]? = some (.cells #[.string x] 9 (0, 0)) ∧
  w.heap[vp]? = some (.cells #[.pointer (some ⟨pb, 0, none⟩)] 97 (0, 0)) ∧
  w.heap[vu]? = some (.cells #[.func (.func 65) #[] #[.pointer (some ⟨lf, 0, none⟩), .pointer (some ⟨vp, 0, none⟩), .pointer (some ⟨vu, 0, none⟩)]] 101 (0, 0))

theorem CkEnv.moved {w w' : World} {x : ByteArray} {lf vp vu pb lb B : Nat} {l : List ByteArray} {sh : Bool} (h : CkEnv w x lf vp vu pb) (hp : PS w pb lb l sh) (k : Moved B pb lb w w') : CkEnv w' x lf vp vu pb := by
  obtain ⟨h1, h2, h3⟩ := h
  obtain ⟨A, c, p1, _, _, _, p2⟩ := hp
  exact ⟨k.block h1 (blocks_ne h1 p2 (by decide)) (blocks_ne h1 p1 (by decide)), k.block h2 (blocks_ne h2 p2 (by decide)) (blocks_ne h2 p1 (by decide)), k.block h3 (blocks_ne h3 p2 (by decide)) (blocks_ne h3 p1 (by decide))⟩

theorem tabs_moved {w w' : World} {pb lb B : Nat} {l : List ByteArray} {sh : Bool} (h : Tabs w) (hp : PS w pb lb l sh) (k : Moved B pb lb w w') : Tabs w' := by
  obtain ⟨A, c, p1, _, _, _, p2⟩ := hp
  unfold Tabs Lib.TabIs World.var? at h ⊢
  simp only [tabs_global, Option.bind_some] at h ⊢
  have hlt : 1 < w.heap.size := by
    rcases Nat.lt_or_ge 1 w.heap.size with h' | h'
    · exact h'
    · rw [Array.getElem?_eq_none h'] at h; cases h
  have hne1 : 1 ≠ pb := by
    intro e
    rw [e, p2] at h
    have := congrArg (Option.map Array.size) h
    simp [Lib.pow10Tab] at this
  have hne2 : 1 ≠ lb := by
    intro e
    rw [e, p1] at h
    have := congrArg (Option.map Array.size) h
    simp [Lib.pow10Tab] at this
  rw [k.2.2 _ hlt (fun hk => hk.elim hne1 hne2)]
  exact h

theorem Moved.drew (B pb lb : Nat) (w : World) : Moved B pb lb w w.drew := ⟨(Below.refl B w).drew, Kept.drew (Kept.refl _ _)⟩

theorem last_le (l : List ByteArray) (h : ∀ s ∈ l, s.size ≤ 16) : (Tr.last l).size ≤ 16 := by
  unfold Tr.last
  cases hl : l.getLast? with
  | none => decide
  | some a => exact h a (List.mem_of_getLast? hl)

theorem ckUp_size (f n i : Nat) (x : ByteArray) (l : List ByteArray) (s : Bool) (h : 1 ≤ f) : (Tr.ckUp f n i x l s).1.size = 16 := by
  cases f with
  | zero => omega
  | succ f =>
    simp only [Tr.ckUp]
    split
    · exact Dg.list_size _
    · split <;> exact Dg.list_size _

set_option maxHeartbeats 4000000 in
theorem up_any (x : ByteArray) (hx : x.size ≤ 140737488351300) (lf vp vu pb lb B : Nat) (hB1 : B ≤ pb) (hB2 : B ≤ lb) (f : Nat) : ∀ (n i : Nat) (l : List ByteArray) (sh : Bool) (w : World), n ≤ f → 1 ≤ n → i < n → n ≤ 1000000 → (∀ s ∈ l, s.size ≤ 16) →
    PS w pb lb l sh → CkEnv w x lf vp vu pb → Tabs w → B ≤ w.heap.size →
    Calls Tryd.prog 65 #[.int .i64 (n : Int), .int .i64 (i : Int), .pointer (some ⟨lf, 0, none⟩), .pointer (some ⟨vp, 0, none⟩), .pointer (some ⟨vu, 0, none⟩)] w fun e w' =>
      e = .returned (.string (Tr.ckUp f n i x l sh).1) ∧ PS w' pb lb (Tr.ckUp f n i x l sh).2.1 (Tr.ckUp f n i x l sh).2.2 ∧ Moved B pb lb w w' := by
  induction f with
  | zero => intro n i l sh w h1 h2; omega
  | succ f ih =>
    intro n i l sh w hnf hn1 hin hn hl hP hE hT hBw
    have IH := Lib.hid ih
    clear ih
    have c1 := cell_of_one hE.1
    have c2 := cell_of_one hE.2.1
    have c3 := cell_of_one hE.2.2
    by_cases h1 : n = 1
    · subst h1
      have hq : Tr.ckUp (f + 1) 1 i x l sh = (Tr.leaf x, l, sh) := rfl
      rw [hq]
      have HC := Lib.hid (list2_any Tr.wLeaf x w hT (joined2_le x hx))
      have HP := Lib.hid hP
      clear hP hE hT c2 c3 hq
      go_enter Tryd.func65, Tryd.ntmps65
      go_wp2_with fail
      refine (HC.out).mono ?_
      rintro e w' ⟨rfl, hb⟩
      go_wp2
      go_ret
      exact ⟨rfl, HP.out.kept hb, (Moved.refl _ _ _ _).below hBw hb⟩
    · have hb1 : ((n : Int) == 1) = false := beq_eq_false_iff_ne.mpr (by omega)
      have HN := Lib.hid (next_any pb lb l sh w.drew hP B hB2 hB1)
      have hhalf := Tr.half_lt n (by omega)
      have hhalf1 := Tr.half_pos n
      have hH : ∀ W, Calls Tryd.prog 55 #[.int .i64 (n : Int)] W fun e w' => e = .returned (.int .i64 (Tr.half n)) ∧ W = w' := fun W => tree_half_any n (by omega) W
      have HH := Lib.hid hH
      have hq : Tr.ckUp (f + 1) n i x l sh = if i < Tr.half n then
          (Tr.node (Tr.ckUp f (Tr.half n) i x l.dropLast (sh || (Tr.last l).size == 0)).1 (Tr.last l), (Tr.ckUp f (Tr.half n) i x l.dropLast (sh || (Tr.last l).size == 0)).2) else
          (Tr.node (Tr.last l) (Tr.ckUp f (n - Tr.half n) (i - Tr.half n) x l.dropLast (sh || (Tr.last l).size == 0)).1, (Tr.ckUp f (n - Tr.half n) (i - Tr.half n) x l.dropLast (sh || (Tr.last l).size == 0)).2) := by
        simp only [Tr.ckUp]
        rw [if_neg (by omega)]
      rw [hq]
      clear hq hH
      have hd : w.drew.heap = w.heap := rfl
      have HE := Lib.hid hE
      have HT := Lib.hid hT
      have HP := Lib.hid hP
      have HLAST := Lib.hid (last_le l hl)
      have HLL := Lib.hid (show ∀ s ∈ l.dropLast, s.size ≤ 16 from fun s hs => hl s (List.dropLast_subset l hs))
      clear hE hT hP hl hd c1 c3
      generalize hk : Tr.half n = k at *
      generalize hs1 : (sh || (Tr.last l).size == 0) = sh1 at *
      have HK := Lib.hid hk
      clear hk hs1
      by_cases hi : i < k
      · rw [if_pos hi]
        have hii : (i : Int) < (k : Int) := by omega
        have hss := ckUp_size f k i x l.dropLast sh1 (by omega)
        generalize hr : Tr.ckUp f k i x l.dropLast sh1 = r at hss ⊢
        have HSS := Lib.hid hss
        have HRR := Lib.hid hr
        clear hss hr
        have hkf : k ≤ f := by omega
        have hkn : k ≤ 1000000 := by omega
        go_enter Tryd.func65, Tryd.ntmps65
        go_wp2
        go_region_with (first | (go_at_call 55; refine (HH.out _).mono ?_; rintro e w' ⟨rfl, rfl⟩) | (go_at_call 66; refine (HN.out).mono ?_; rintro e w1 ⟨rfl, hp1, hm1⟩))
        all_goals
          have hE1 : CkEnv w1 x lf vp vu pb := CkEnv.moved (w := w.drew) HE.out (show PS w.drew pb lb l sh from HP.out) hm1
          have hT1 : Tabs w1 := tabs_moved (w := w.drew) HT.out (show PS w.drew pb lb l sh from HP.out) hm1
          have hB1' : B ≤ w1.heap.size := Nat.le_trans hBw hm1.1.size
          have c3 := cell_of_one hE1.2.2
          have hcall := IH.out k i l.dropLast sh1 w1 hkf hhalf1 hi hkn HLL.out hp1 hE1 hT1 hB1'
          rw [HRR.out] at hcall
          have HR := Lib.hid hcall
          clear hcall
          have HM := Lib.hid (show Moved B pb lb w w1 from (Moved.drew B pb lb w).trans hm1)
          have HT1 := Lib.hid hT1
          have HE1 := Lib.hid hE1
          have HP1 := Lib.hid hp1
          clear hE1 hT1 hm1 hp1 HH HN HE HT HP
          go_wp2_with fail
          refine (HR.out).mono ?_
          rintro e w2 ⟨rfl, hp2, hm2⟩
          have hT2 := tabs_moved HT1.out HP1.out hm2
          have HNO := Lib.hid (tree_node_any r.1 (Tr.last l) (by have := HLAST.out; have := HSS.out; omega) w2 hT2)
          have HM2 := Lib.hid (HM.out.trans hm2)
          have HP2 := Lib.hid hp2
          have hB2' : B ≤ w2.heap.size := Nat.le_trans hBw HM2.out.1.size
          clear hT2 hm2 hp2
          go_wp2_with fail
          refine (HNO.out).mono ?_
          rintro e w3 ⟨rfl, hb3⟩
          go_wp2
          go_ret
          exact ⟨rfl, HP2.out.kept hb3, HM2.out.below hB2' hb3⟩
      · rw [if_neg hi]
        have hii : (k : Int) ≤ (i : Int) := by omega
        have hss := ckUp_size f (n - k) (i - k) x l.dropLast sh1 (by omega)
        generalize hr : Tr.ckUp f (n - k) (i - k) x l.dropLast sh1 = r at hss ⊢
        have HSS := Lib.hid hss
        have HRR := Lib.hid hr
        clear hss hr
        have hkf : n - k ≤ f := by omega
        have hkn : n - k ≤ 1000000 := by omega
        have hkn1 : 1 ≤ n - k := by omega
        have hik : i - k < n - k := by omega
        have e1 : ((n : Int) - (k : Int)) = ((n - k : Nat) : Int) := by omega
        have e2 : ((i : Int) - (k : Int)) = ((i - k : Nat) : Int) := by omega
        have E1 := Lib.hid e1
        have E2 := Lib.hid e2
        clear e1 e2
        go_enter Tryd.func65, Tryd.ntmps65
        go_wp2
        go_region_with (first | (go_at_call 55; refine (HH.out _).mono ?_; rintro e w' ⟨rfl, rfl⟩) | (go_at_call 66; refine (HN.out).mono ?_; rintro e w1 ⟨rfl, hp1, hm1⟩))
        all_goals
          have hE1 : CkEnv w1 x lf vp vu pb := CkEnv.moved (w := w.drew) HE.out (show PS w.drew pb lb l sh from HP.out) hm1
          have hT1 : Tabs w1 := tabs_moved (w := w.drew) HT.out (show PS w.drew pb lb l sh from HP.out) hm1
          have hB1' : B ≤ w1.heap.size := Nat.le_trans hBw hm1.1.size
          have c3 := cell_of_one hE1.2.2
          have hcall := IH.out (n - k) (i - k) l.dropLast sh1 w1 hkf hkn1 hik hkn HLL.out hp1 hE1 hT1 hB1'
          rw [HRR.out] at hcall
          have HR := Lib.hid hcall
          clear hcall
          have HM := Lib.hid (show Moved B pb lb w w1 from (Moved.drew B pb lb w).trans hm1)
          have HT1 := Lib.hid hT1
          have HE1 := Lib.hid hE1
          have HP1 := Lib.hid hp1
          clear hE1 hT1 hm1 hp1 HH HN HE HT HP
          go_wp2_with fail
          rw [E1.out, E2.out]
          refine (HR.out).mono ?_
          rintro e w2 ⟨rfl, hp2, hm2⟩
          have hT2 := tabs_moved HT1.out HP1.out hm2
          have HNO := Lib.hid (tree_node_any (Tr.last l) r.1 (by have := HLAST.out; have := HSS.out; omega) w2 hT2)
          have HM2 := Lib.hid (HM.out.trans hm2)
          have HP2 := Lib.hid hp2
          have hB2' : B ≤ w2.heap.size := Nat.le_trans hBw HM2.out.1.size
          clear hT2 hm2 hp2
          go_wp2_with fail
          refine (HNO.out).mono ?_
          rintro e w3 ⟨rfl, hb3⟩
          go_wp2
          go_ret
          exact ⟨rfl, HP2.out.kept hb3, HM2.out.below hB2' hb3⟩
end Go.Proofs.YtoimnllcniefoaaDoor.P
/- slices.Clone of strings; tree.Check. -/
namespace Go.Proofs.YtoimnllcniefoaaDoor.P
open Go.RowKit Go.Proofs.YtoimnllcniefoaaDoor Go.Proofs.YtoimnllcniefoaaDoorW.PrintWords Go.Proofs.YtoimnllcniefoaaDoorW.PrintLast Go.Proofs.YtoimnllcniefoaaDoorW.PrintMore
set_option linter.unusedVariables false

/-- A copy of a list of strings. -/
def ClonePost (l : List ByteArray) (w : World) (e : Ending) (w' : World) : Prop :=
  ∃ A c, e = .returned (.slice A l.length c) ∧ RowIs w' A l ∧ l.length ≤ c ∧ c ≤ 9223372036854775807 ∧ Below w.heap.size w w'

theorem clone_of_own {l : List ByteArray} {w w' : World} {v : Value} (h : w'.ownsRow w.heap.size 9 1 v l.length (l.map Value.string)) (hb : Below w.heap.size w w') : ClonePost l w (.returned v) w' := by
  obtain ⟨h1, h2⟩ := h
  rcases h2 with ⟨rfl, h0⟩ | ⟨g, cap, cur, rfl, hg, hh, hn, hc, hs, ht⟩
  · have hl : l = [] := List.eq_nil_of_length_eq_zero h0
    subst hl
    exact ⟨none, 0, rfl, .inl ⟨rfl, rfl⟩, Nat.le_refl _, by decide, hb⟩
  · exact ⟨_, cap, rfl, .inr ⟨g, cur, rfl, hh, by rw [Nat.mul_one] at ht; exact ht⟩, hn, hc, hb⟩

theorem clone_any (A : Option Addr) (c : Nat) (l : List ByteArray) (w : World) (hr : Kd.C Kd.string w A l.length l) (hbig : l.length * 16 ≤ 140737488355328) :
    Calls Tryd.prog 63 #[.slice A l.length c] w fun e w' => ClonePost l w e w' := by
  cases A with
  | none =>
    have hl : l = [] := by
      rcases Nat.eq_zero_or_pos l.length with h | h
      · exact List.eq_nil_of_length_eq_zero h
      · obtain ⟨ad, e, _⟩ := hr.2.2 h; cases e
    subst hl
    refine (Tryd.slices_Clone_string_nil 0 c w).mono fun e w' ⟨he, hw⟩ => ?_
    subst he; subst hw
    exact ⟨none, 0, rfl, .inl ⟨rfl, rfl⟩, Nat.le_refl _, by decide, Below.refl _ _⟩
  | some ad =>
    rcases Nat.eq_zero_or_pos l.length with h | h
    · have hl : l = [] := List.eq_nil_of_length_eq_zero h
      subst hl
      refine (Tryd.slices_Clone_string_zero ad c w).mono fun e w' ⟨v, he, hown, _, hb⟩ => ?_
      subst he
      exact clone_of_own (l := []) hown hb
    · obtain ⟨b, off, sp⟩ := ad
      have h0 := at_str hr 0 h h
      obtain ⟨ad', e', hc0⟩ := h0
      cases e'
      have hsp : sp = none := by
        have := World.cell?_spot hc0
        simpa [Addr.add] using this
      subst hsp
      refine (Tryd.slices_Clone_string b off l.length c l w (Nat.le_refl _) hbig fun j hj => ?_).mono fun e w' ⟨v, he, hown, _, hb⟩ => ?_
      · obtain ⟨ad', e', hcj⟩ := at_str hr j hj hj
        cases e'
        have ha : (⟨b, off, none⟩ : Addr).add j = ⟨b, off + j, none⟩ := by unfold Addr.add; split <;> simp_all
        rw [← ha, hcj]
        simp [List.getD, List.getElem?_eq_getElem hj]
      · subst he
        rw [List.take_length] at hown
        exact clone_of_own hown hb

theorem rowIs_C {w : World} {A : Option Addr} {l : List ByteArray} (h : RowIs w A l) (hl : l.length ≤ 9223372036854775807) : Kd.C Kd.string w A l.length l := by
  rcases h with ⟨rfl, rfl⟩ | ⟨rb, cur, rfl, h2, h3⟩
  · exact Kd.C_of_reads (d := ByteArray.empty) (h1 := fun _ => rfl) ⟨rfl, by decide, fun hn => by simp at hn⟩
  · refine Kd.C_of_reads (d := ByteArray.empty) (h1 := fun _ => rfl) ⟨rfl, hl, fun hn => ⟨_, rfl, fun j hj => ?_⟩⟩
    have ha : (⟨rb, 0, none⟩ : Addr).add j = ⟨rb, j, none⟩ := by unfold Addr.add; split <;> simp_all
    have h4 : (cur.toList.take l.length)[j]? = (l.map Value.string)[j]? := by rw [h3]
    rw [List.getElem?_take_of_lt hj, List.getElem?_map] at h4
    rw [ha, Lib.cell_of_heap h2, ← Array.getElem?_toList, h4]
    simp [List.getD, List.getElem?_eq_getElem hj]

theorem proper_le (l : List ByteArray) (h : Tr.proper l = true) : ∀ s ∈ l, s.size ≤ 16 := by
  intro s hs
  have := List.all_eq_true.1 h s hs
  unfold Dg.isD at this
  simp at this
  omega

set_option maxHeartbeats 2000000 in
/-- Check, where the numbers are out of range. -/
theorem check_range (root : ByteArray) (n i : Int) (x : ByteArray) (A : Option Addr) (c : Nat) (l : List ByteArray) (w : World) (hr : Kd.C Kd.string w A l.length l) (hbig : l.length * 16 ≤ 140737488355328)
    (h : n > 1000000 ∨ i < 0 ∨ i ≥ n) :
    Calls Tryd.prog 41 #[.string root, .int .i64 n, .int .i64 i, .string x, .slice A l.length c] w fun e w' => e = .returned (.bool false) ∧ Below w.heap.size w w' := by
  have hb0 : Below w.heap.size w (w.alloc (.cells #[.string x] 9)) := (Below.refl _ _).alloc (Nat.le_refl _) _
  have HC := Lib.hid (clone_any A c l _ (Kd.C_below hr hb0) hbig)
  have HB0 := Lib.hid hb0
  clear hr hb0
  by_cases h1 : n > 1000000
  · clear h
    have d1 : decide (n > 1000000) = true := decide_eq_true h1
    go_enter Tryd.func41, Tryd.ntmps41
    go_wp2_with fail
    refine (HC.out).mono ?_
    rintro e w1 ⟨A', c', rfl, hrow, hc1, hc2, hb⟩
    have HB := Lib.hid ((HB0.out.trans (hb.mono (by simp))))
    have hsz1 : w.heap.size ≤ w1.heap.size := HB.out.size
    clear hb hrow
    go_wp2
    go_ret
    exact ⟨rfl, ((HB.out.alloc hsz1 _))⟩
  · have d1 : n ≤ 1000000 := by omega
    by_cases h2 : i < 0
    · clear h
      go_enter Tryd.func41, Tryd.ntmps41
      go_wp2_with fail
      refine (HC.out).mono ?_
      rintro e w1 ⟨A', c', rfl, hrow, hc1, hc2, hb⟩
      have HB := Lib.hid ((HB0.out.trans (hb.mono (by simp))))
      have hsz1 : w.heap.size ≤ w1.heap.size := HB.out.size
      clear hb hrow
      go_wp2
      go_ret
      exact ⟨rfl, ((HB.out.alloc hsz1 _))⟩
    · have d2 : 0 ≤ i := by omega
      have h3 : n ≤ i := by omega
      clear h
      go_enter Tryd.func41, Tryd.ntmps41
      go_wp2_with fail
      refine (HC.out).mono ?_
      rintro e w1 ⟨A', c', rfl, hrow, hc1, hc2, hb⟩
      have HB := Lib.hid ((HB0.out.trans (hb.mono (by simp))))
      have hsz1 : w.heap.size ≤ w1.heap.size := HB.out.size
      clear hb hrow
      go_wp2
      go_ret
      exact ⟨rfl, ((HB.out.alloc hsz1 _))⟩

set_option maxHeartbeats 2000000 in
/-- Check, where a string is no digest. -/
theorem check_improper (root : ByteArray) (n i : Int) (x : ByteArray) (A : Option Addr) (c : Nat) (l : List ByteArray) (w : World) (hr : Kd.C Kd.string w A l.length l) (hbig : l.length * 16 ≤ 140737488355328)
    (h1 : n ≤ 1000000) (h2 : 0 ≤ i) (h3 : i < n) (hp : Tr.proper l = false) :
    Calls Tryd.prog 41 #[.string root, .int .i64 n, .int .i64 i, .string x, .slice A l.length c] w fun e w' => e = .returned (.bool false) ∧ Below w.heap.size w w' := by
  have hb0 : Below w.heap.size w (w.alloc (.cells #[.string x] 9)) := (Below.refl _ _).alloc (Nat.le_refl _) _
  have HC := Lib.hid (clone_any A c l _ (Kd.C_below hr hb0) hbig)
  have HB0 := Lib.hid hb0
  have HL := Lib.hid hr.2.1
  have HP := Lib.hid hp
  clear hr hb0 hp
  go_enter Tryd.func41, Tryd.ntmps41
  go_wp2_with fail
  refine (HC.out).mono ?_
  rintro e w1 ⟨A', c', rfl, hrow, hc1, hc2, hb⟩
  have HB := Lib.hid ((HB0.out.trans (hb.mono (by simp))))
  have hsz1 : w.heap.size ≤ w1.heap.size := HB.out.size
  have hall : Below w1.heap.size w1 (w1.alloc (.cells #[.slice A' l.length c'] 95)) := (Below.refl _ _).alloc (Nat.le_refl _) _
  have hcall := proper_any A' c' l (w1.alloc (.cells #[.slice A' l.length c'] 95)) (Kd.C_below (rowIs_C hrow HL.out) hall)
  rw [HP.out] at hcall
  have HCALL := Lib.hid hcall
  have HALL := Lib.hid hall
  clear hb hrow hall hcall
  go_wp2_with fail
  refine (HCALL.out).mono ?_
  rintro e w2 ⟨rfl, hb2⟩
  go_wp2
  go_ret
  exact ⟨rfl, (HB.out.alloc hsz1 _).trans (hb2.mono (by simp; omega))⟩

/-- The proof's state, as Check lays it. -/
theorem check_state (w w1 w2 : World) (x : ByteArray) (A' : Option Addr) (c' : Nat) (l : List ByteArray) (hrow : RowIs w1 A' l) (hc1 : l.length ≤ c') (hc2 : c' ≤ 9223372036854775807) (hleaf : w1.heap[w.heap.size]? = some (.cells #[.string x] 9 (0, 0)))
    (hb : Below w.heap.size w w1) (hlt : w.heap.size < w1.heap.size) (hb2 : Below (w1.alloc (.cells #[.slice A' l.length c'] 95)).heap.size (w1.alloc (.cells #[.slice A' l.length c'] 95)) w2) (hT : Tabs w) :
    ∀ W4, W4 = (((w2.alloc (.cells #[.pointer (some ⟨w1.heap.size, 0, none⟩), .bool false] 100)).alloc (.cells #[.pointer (some ⟨w2.heap.size, 0, none⟩)] 97)).alloc
      (.cells #[.func (.func 65) #[] #[.pointer (some ⟨w.heap.size, 0, none⟩), .pointer (some ⟨w2.heap.size + 1, 0, none⟩), .pointer (some ⟨w2.heap.size + 1 + 1, 0, none⟩)]] 101)) →
    PS W4 w2.heap.size w1.heap.size l false ∧ CkEnv W4 x w.heap.size (w2.heap.size + 1) (w2.heap.size + 1 + 1) w2.heap.size ∧ Tabs W4 ∧ Below w.heap.size w W4 ∧ w.heap.size ≤ w2.heap.size := by
  intro W4 hW
  have hz : w1.heap.size < w2.heap.size := by have := hb2.size; simp at this; omega
  have hbw2 : Below w.heap.size w w2 := (hb.alloc (Nat.le_of_lt hlt) _).trans (hb2.mono (by simp; omega))
  have e1 : Below w1.heap.size w1 w2 := ((Below.refl _ _).alloc (Nat.le_refl _) _).trans (hb2.mono (by simp))
  have e2 : Below w2.heap.size w2 W4 := by
    subst hW
    exact (((Below.refl _ _).alloc (Nat.le_refl _) _).alloc (by simp) _).alloc (by simp; omega) _
  have hlist : w2.heap[w1.heap.size]? = some (.cells #[.slice A' l.length c'] 95 (0, 0)) := (hb2.block _ (by simp)).trans (heap_alloc_new w1 _)
  have hpb : W4.heap[w2.heap.size]? = some (.cells #[.pointer (some ⟨w1.heap.size, 0, none⟩), .bool false] 100 (0, 0)) := by
    subst hW
    rw [Lib.alloc_old _ _ _ (by simp; omega), Lib.alloc_old _ _ _ (by simp)]
    exact heap_alloc_new w2 _
  have hvp : W4.heap[w2.heap.size + 1]? = some (.cells #[.pointer (some ⟨w2.heap.size, 0, none⟩)] 97 (0, 0)) := by
    subst hW
    rw [Lib.alloc_old _ _ _ (by simp)]
    have := heap_alloc_new (w2.alloc (.cells #[.pointer (some ⟨w1.heap.size, 0, none⟩), .bool false] 100)) (.cells #[.pointer (some ⟨w2.heap.size, 0, none⟩)] 97)
    simpa using this
  have hvu : W4.heap[w2.heap.size + 1 + 1]? = some (.cells #[.func (.func 65) #[] #[.pointer (some ⟨w.heap.size, 0, none⟩), .pointer (some ⟨w2.heap.size + 1, 0, none⟩), .pointer (some ⟨w2.heap.size + 1 + 1, 0, none⟩)]] 101 (0, 0)) := by
    subst hW
    have := heap_alloc_new ((w2.alloc (.cells #[.pointer (some ⟨w1.heap.size, 0, none⟩), .bool false] 100)).alloc (.cells #[.pointer (some ⟨w2.heap.size, 0, none⟩)] 97)) (.cells #[.func (.func 65) #[] #[.pointer (some ⟨w.heap.size, 0, none⟩), .pointer (some ⟨w2.heap.size + 1, 0, none⟩), .pointer (some ⟨w2.heap.size + 1 + 1, 0, none⟩)]] 101)
    simpa using this
  have e3 : Below w.heap.size w W4 := hbw2.trans (e2.mono (by omega))
  refine ⟨⟨A', c', (e2.block _ hz).trans hlist, hc1, hc2, rowIs_kept hrow (fun rb cur hr => ?_), hpb⟩, ⟨?_, hvp, hvu⟩, tabs_below hT e3, e3, by omega⟩
  · have h1 := (e1.block _ (lt_of_block hr)).trans hr
    exact (e2.block _ (lt_of_block h1)).trans h1
  · have h1 := (e1.block _ (lt_of_block hleaf)).trans hleaf
    exact (e2.block _ (lt_of_block h1)).trans h1

set_option maxHeartbeats 4000000 in
/-- Check, where the path is walked. -/
theorem check_walk (root : ByteArray) (n i : Nat) (x : ByteArray) (A : Option Addr) (c : Nat) (l : List ByteArray) (w : World) (hr : Kd.C Kd.string w A l.length l) (hbig : l.length * 16 ≤ 140737488355328) (hx : x.size ≤ 140737488351300) (hT : Tabs w)
    (h1 : n ≤ 1000000) (h3 : i < n) (hp : Tr.proper l = true) :
    Calls Tryd.prog 41 #[.string root, .int .i64 (n : Int), .int .i64 (i : Int), .string x, .slice A l.length c] w fun e w' =>
      e = .returned (.bool (decide ((Tr.ckUp n n i x l false).1 = root) && (!(Tr.ckUp n n i x l false).2.2 && (Tr.ckUp n n i x l false).2.1.length == 0))) ∧ Below w.heap.size w w' := by
  have hb0 : Below w.heap.size w (w.alloc (.cells #[.string x] 9)) := (Below.refl _ _).alloc (Nat.le_refl _) _
  have HC := Lib.hid (clone_any A c l _ (Kd.C_below hr hb0) hbig)
  have HB0 := Lib.hid hb0
  have HL := Lib.hid hr.2.1
  have HP := Lib.hid hp
  have HLE := Lib.hid (proper_le l hp)
  have HT := Lib.hid hT
  have hleaf := heap_alloc_new w (.cells #[.string x] 9)
  have HLEAF := Lib.hid hleaf
  clear hr hb0 hp hT hleaf
  generalize hr : Tr.ckUp n n i x l false = r
  have HR := Lib.hid hr
  clear hr
  go_enter Tryd.func41, Tryd.ntmps41
  go_wp2_with fail
  refine (HC.out).mono ?_
  rintro e w1 ⟨A', c', rfl, hrow, hc1, hc2, hb⟩
  have HB := Lib.hid ((HB0.out.trans (hb.mono (by simp))))
  have hsz1 : w.heap.size < w1.heap.size := by have := hb.size; simp at this; omega
  have hall : Below w1.heap.size w1 (w1.alloc (.cells #[.slice A' l.length c'] 95)) := (Below.refl _ _).alloc (Nat.le_refl _) _
  have hcall := proper_any A' c' l (w1.alloc (.cells #[.slice A' l.length c'] 95)) (Kd.C_below (rowIs_C hrow HL.out) hall)
  rw [HP.out] at hcall
  have HCALL := Lib.hid hcall
  have HALL := Lib.hid hall
  have HROW := Lib.hid hrow
  have HL1 := Lib.hid ((hb.block _ (by simp)).trans HLEAF.out)
  clear hb hrow hall hcall
  go_wp2_with fail
  refine (HCALL.out).mono ?_
  rintro e w2 ⟨rfl, hb2⟩
  have hst := check_state w w1 w2 x A' c' l HROW.out hc1 hc2 HL1.out HB.out hsz1 hb2 HT.out _ rfl
  have hbz : w1.heap.size < w2.heap.size := by have := hb2.size; simp at this; omega
  clear hb2
  obtain ⟨hps, hen, hta, hbe, hle⟩ := hst
  have hsz4 := hbe.size
  have hup := up_any x hx w.heap.size (w2.heap.size + 1) (w2.heap.size + 1 + 1) w2.heap.size w1.heap.size w.heap.size hle (Nat.le_of_lt hsz1) n n i l false _ (Nat.le_refl _) (by omega) h3 h1 HLE.out hps hen hta hsz4
  rw [HR.out] at hup
  have HUP := Lib.hid hup
  have HPS := Lib.hid hps
  have HEN := Lib.hid hen
  have HBE := Lib.hid hbe
  clear hup hps hen hta hbe hle hsz4
  by_cases hrt : r.1 = root
  · have hb : (r.1.toList == root.toList) = true := by rw [hrt]; simp
    have hd : decide (r.1 = root) = true := decide_eq_true hrt
    have HDD := Lib.hid hd
    clear hd hrt
    go_wp2_with fail
    refine (HUP.out).mono ?_
    rintro e w5 ⟨rfl, hp5, hm5⟩
    have hen5 := CkEnv.moved HEN.out HPS.out hm5
    have c5 := cell_of_one hen5.2.1
    have HD := Lib.hid (done_any _ _ _ _ w5 hp5)
    have HB5 := Lib.hid (HBE.out.trans hm5.1)
    clear hen5 hp5 hm5 HBE HEN HPS HUP
    go_wp2_with fail
    refine (HD.out).mono ?_
    rintro e w6 ⟨rfl, rfl⟩
    go_wp2
    go_ret
    exact ⟨by rw [HDD.out]; simp, HB5.out⟩
  · have hb : (r.1.toList == root.toList) = false := by
      rw [beq_eq_false_iff_ne]
      intro h
      apply hrt
      rw [ByteArray.toList_eq, ByteArray.toList_eq] at h
      exact ByteArray.ext (Array.toList_inj.1 h)
    have hd : decide (r.1 = root) = false := decide_eq_false hrt
    have HDD := Lib.hid hd
    clear hd hrt
    go_wp2_with fail
    refine (HUP.out).mono ?_
    rintro e w5 ⟨rfl, hp5, hm5⟩
    have HB5 := Lib.hid (HBE.out.trans hm5.1)
    clear hp5 hm5 HBE HEN HPS HUP
    go_wp2
    go_ret
    exact ⟨by rw [HDD.out]; simp, HB5.out⟩

def tree_Check.f (a0 : ByteArray) (a1 a2 : Int) (a3 : ByteArray) (l4 : List ByteArray) : Option Bool :=
  if l4.length * 16 ≤ 140737488355328 ∧ a3.size ≤ 140737488351300 then some (Tr.check a0 a1 a2 a3 l4) else none
theorem tree_Check.calls (a0 : ByteArray) (a1 : Int) (a2 : Int) (a3 : ByteArray) (A4 : Option Addr) (c4 : Nat) (l4 : List ByteArray) (r : Bool) (w : World) (hr4 : Kd.C Kd.string w A4 l4.length l4) (hc4 : l4.length ≤ c4) (hT : Tabs w) (h : tree_Check.f a0 a1 a2 a3 l4 = some r) :
    Calls Tryd.prog 41 #[.string a0, .int .i64 a1, .int .i64 a2, .string a3, .slice A4 l4.length c4] w fun e w' => e = .returned (.bool r) ∧ Below w.heap.size w w' := by
  unfold tree_Check.f at h
  split at h
  · rename_i hg
    obtain ⟨hg1, hg2⟩ := hg
    cases h
    unfold Tr.check
    by_cases hr : a1 > 1000000 ∨ a2 < 0 ∨ a2 ≥ a1
    · rw [if_pos (by rcases hr with h | h | h <;> simp [h])]
      exact check_range a0 a1 a2 a3 A4 c4 l4 w hr4 hg1 hr
    · have h1 : a1 ≤ 1000000 := by omega
      have h2 : 0 ≤ a2 := by omega
      have h3 : a2 < a1 := by omega
      cases hp : Tr.proper l4 with
      | false =>
        rw [if_pos (by simp)]
        exact check_improper a0 a1 a2 a3 A4 c4 l4 w hr4 hg1 h1 h2 h3 hp
      | true =>
        rw [if_neg (by simp; omega)]
        obtain ⟨n, rfl⟩ := Int.eq_ofNat_of_zero_le (show 0 ≤ a1 by omega)
        obtain ⟨i, rfl⟩ := Int.eq_ofNat_of_zero_le h2
        exact check_walk a0 n i a3 A4 c4 l4 w hr4 hg1 hg2 hT (by omega) (by omega) hp
  · cases h
end Go.Proofs.YtoimnllcniefoaaDoor.P
