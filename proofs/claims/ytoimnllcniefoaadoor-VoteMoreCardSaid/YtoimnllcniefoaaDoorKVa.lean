import Derived.Test.YtoimnllcniefoaaDoorProg
import Derived.MapKept
import Derived.RowKit3
import Derived.Test.YtoimnllcniefoaaDoorKPx0
import Derived.Test.YtoimnllcniefoaaDoorKD
import Derived.Lib.Hide
import Derived.Test.YtoimnllcniefoaaDoorKTa
import Derived.Test.YtoimnllcniefoaaDoorKPx1
import Derived.Test.YtoimnllcniefoaaDoorKSc
set_option linter.unusedVariables false
set_option linter.unusedSimpArgs false
/- A map from integers to true that the call made itself: what a look-up and a store answer. -/
namespace Go.Proofs.YtoimnllcniefoaaDoor.P
open Go Go.MapKept Go.RowKit
set_option linter.unusedSimpArgs false

/-- The block b is a map whose keys are those of S, each with true. -/
def VMap (w : World) (b : Nat) (S : List Int) : Prop :=
  ∃ es clock, w.heap[b]? = some (.map es clock) ∧ (∀ x ∈ es.toList, IsKey (.int .i64) x.key ∧ x.val = .bool true) ∧ ∀ m : Int, (∃ x ∈ es.toList, x.key = .int .i64 m) ↔ m ∈ S

theorem vmap_new (w : World) : VMap (w.alloc (.map #[] 0)) w.heap.size [] :=
  ⟨#[], 0, (heap_alloc w _).1, by simp, by simp⟩

theorem vmap_keep {w w' : World} {b : Nat} {S : List Int} (h : VMap w b S) (e : w'.heap[b]? = w.heap[b]?) : VMap w' b S := by
  obtain ⟨es, c, h1, h2, h3⟩ := h
  exact ⟨es, c, e.trans h1, h2, h3⟩

theorem vmap_lt {w : World} {b : Nat} {S : List Int} (h : VMap w b S) : b < w.heap.size := by
  obtain ⟨es, c, h1, _, _⟩ := h
  exact (Array.getElem?_eq_some_iff.1 h1).1

theorem vmap_look {P : Program} {w : World} {b : Nat} {S : List Int} {T kt et : TypeId} (hm : P.underlying T = some (.map kt et)) (hd : P.underlying kt = some (.int .i64))
    (hz : (zeroValue et).run P w = .ok (.bool false) w) (h : VMap w b S) (m : Int) : (Instr.lookup T (.map (some b)) (.int .i64 m) false).run P w = .ok (.bool (decide (m ∈ S))) w := by
  obtain ⟨es, c, h1, h2, h3⟩ := h
  have hk : IsKey (.int .i64) (.int .i64 m) := rfl
  rcases findNow_spec hk es.toList 0 (fun x hx => (h2 x hx).1) with ⟨f1, f2⟩ | ⟨j, e, f1, f2, f3⟩
  · have hn : ¬ m ∈ S := fun hm => by
      obtain ⟨x, hx, e⟩ := (h3 m).2 hm
      exact f2 x hx e
    simp [Instr.lookup, run_underlying hm, MapKept.run_getObj_map h1, run_checkKey hd hk, run_findKey hd f1, Result.andThen, hz, hn]
  · have he : e ∈ es.toList := List.mem_of_getElem? f2
    have hy : m ∈ S := (h3 m).1 ⟨e, he, f3⟩
    simp [Instr.lookup, run_underlying hm, MapKept.run_getObj_map h1, run_checkKey hd hk, run_findKey hd f1, Result.andThen, (h2 e he).2, hy]

theorem vmap_put {P : Program} {w : World} {b : Nat} {S : List Int} {T kt et : TypeId} (hm : P.underlying T = some (.map kt et)) (hd : P.underlying kt = some (.int .i64)) (h : VMap w b S) (m : Int) (hn : ¬ m ∈ S) :
    ∃ o, (Instr.mapUpdate T (.map (some b)) (.int .i64 m) (.bool true)).run P w = .ok () { w with heap := w.heap.setIfInBounds b o } ∧ VMap { w with heap := w.heap.setIfInBounds b o } b (m :: S) := by
  obtain ⟨es, c, h1, h2, h3⟩ := h
  have hk : IsKey (.int .i64) (.int .i64 m) := rfl
  rcases findNow_spec hk es.toList 0 (fun x hx => (h2 x hx).1) with ⟨f1, f2⟩ | ⟨j, e, f1, f2, f3⟩
  · refine ⟨.map (es.push { key := .int .i64 m, val := .bool true, born := c }) (c + 1), ?_, _, _, (heap_set h1).1, ?_, ?_⟩
    · simp [Instr.mapUpdate, run_underlying hm, MapKept.run_getObj_map h1, run_checkKey hd hk, run_findKey hd f1, MapKept.run_setObj_map _ h1, Result.andThen]
    · intro x hx
      simp only [Array.toList_push, List.mem_append, List.mem_singleton] at hx
      rcases hx with hx | rfl
      · exact h2 x hx
      · exact ⟨hk, rfl⟩
    · intro q
      simp only [Array.toList_push, List.mem_append, List.mem_cons, List.not_mem_nil, or_false]
      constructor
      · rintro ⟨x, hx | rfl, e⟩
        · exact .inr ((h3 q).1 ⟨x, hx, e⟩)
        · cases e
          exact .inl rfl
      · rintro (rfl | hq)
        · exact ⟨_, .inr rfl, rfl⟩
        · obtain ⟨x, hx, e⟩ := (h3 q).2 hq
          exact ⟨x, .inl hx, e⟩
  · exact absurd ((h3 m).1 ⟨e, List.mem_of_getElem? f2, f3⟩) hn

end Go.Proofs.YtoimnllcniefoaaDoor.P
/- The plain law of the votes: which votes count, which do not, and how many; no program and no memory. -/
namespace Go.Proofs.YtoimnllcniefoaaDoor.Vo
open Go Go.Proofs.YtoimnllcniefoaaDoor Go.Proofs.YtoimnllcniefoaaDoor.P

abbrev V := S33

/-- The state of a count: the members that have voted, the votes, and the places of those that do not count. -/
structure Cn where
  seen : List Int
  yes : Int
  no : Int
  bad : List Int

def counts (ok : V → Bool) (s : Cn) (v : V) : Bool := !s.seen.contains v.f0 && ok v
def step (ok : V → Bool) (s : Cn) (i : Nat) (v : V) : Cn :=
  if counts ok s v = true then (if v.f3 = true then ⟨v.f0 :: s.seen, s.yes + 1, s.no, s.bad⟩ else ⟨v.f0 :: s.seen, s.yes, s.no + 1, s.bad⟩) else ⟨s.seen, s.yes, s.no, s.bad ++ [(i : Int)]⟩
def cnt (ok : V → Bool) (l : List V) : Nat → Cn
  | 0 => ⟨[], 0, 0, []⟩
  | j + 1 => match l[j]? with
    | some v => step ok (cnt ok l j) j v
    | none => cnt ok l j

section
variable {ok : V → Bool}

theorem cnt_succ (l : List V) (j : Nat) (h : j < l.length) : cnt ok l (j + 1) = step ok (cnt ok l j) j l[j] := by
  show (match l[j]? with | some v => step ok (cnt ok l j) j v | none => cnt ok l j) = _
  rw [List.getElem?_eq_getElem h]

theorem cnt_append (l m : List V) : ∀ j, j ≤ l.length → cnt ok (l ++ m) j = cnt ok l j := by
  intro j
  induction j with
  | zero => intro _; rfl
  | succ j ih =>
    intro h
    rw [cnt_succ _ _ (by rw [List.length_append]; omega), cnt_succ _ _ (by omega), ih (by omega), List.getElem_append_left (by omega)]

theorem cnt_inv (l : List V) : ∀ j, j ≤ l.length → 0 ≤ (cnt ok l j).yes ∧ 0 ≤ (cnt ok l j).no ∧ (cnt ok l j).yes + (cnt ok l j).no + ((cnt ok l j).bad.length : Int) = j ∧ ((cnt ok l j).seen.length : Int) = (cnt ok l j).yes + (cnt ok l j).no := by
  intro j
  induction j with
  | zero => intro _; exact ⟨Int.le_refl _, Int.le_refl _, rfl, rfl⟩
  | succ j ih =>
    intro h
    obtain ⟨h1, h2, h3, h4⟩ := ih (by omega)
    rw [cnt_succ _ _ h]
    generalize cnt ok l j = s at h1 h2 h3 h4
    unfold step
    split
    · split
      · refine ⟨?_, ?_, ?_, ?_⟩ <;> simp only [List.length_cons] <;> omega
      · refine ⟨?_, ?_, ?_, ?_⟩ <;> simp only [List.length_cons] <;> omega
    · refine ⟨?_, ?_, ?_, ?_⟩ <;> simp only [List.length_append, List.length_cons, List.length_nil] <;> omega

/-- What is found later stands behind what was found till now. -/
theorem bad_from (l : List V) (j : Nat) : ∀ n, j ≤ n → n ≤ l.length → ∃ t : List Int, (cnt ok l n).bad = (cnt ok l j).bad ++ t ∧ ∀ x ∈ t, (j : Int) ≤ x := by
  intro n
  induction n with
  | zero => intro h _; obtain rfl : j = 0 := by omega
            exact ⟨[], by simp, by simp⟩
  | succ n ih =>
    intro h hn
    by_cases e : j = n + 1
    · subst e; exact ⟨[], by simp, by simp⟩
    · obtain ⟨t, h1, h2⟩ := ih (by omega) (by omega)
      rw [cnt_succ _ _ (by omega)]
      unfold step
      split
      · refine ⟨t, ?_, h2⟩
        split <;> exact h1
      · refine ⟨t ++ [(n : Int)], ?_, ?_⟩
        · show (cnt ok l n).bad ++ [(n : Int)] = _
          rw [h1, List.append_assoc]
        · intro x hx
          rcases List.mem_append.1 hx with hx | hx
          · exact h2 x hx
          · rw [List.mem_singleton.1 hx]; omega

/-- The place of a vote stands next among those that do not count just if it does not count. -/
theorem bad_next (l : List V) (j n : Nat) (hj : j < n) (hn : n ≤ l.length) :
    if counts ok (cnt ok l j) (l[j]'(by omega)) = true then (cnt ok l n).bad[(cnt ok l j).bad.length]? ≠ some (j : Int) else (cnt ok l n).bad[(cnt ok l j).bad.length]? = some (j : Int) := by
  obtain ⟨t, h1, h2⟩ := bad_from (ok := ok) l (j + 1) n (by omega) hn
  rw [cnt_succ _ _ (by omega)] at h1
  unfold step at h1
  split
  · rename_i hc
    rw [if_pos hc] at h1
    have h3 : (cnt ok l n).bad = (cnt ok l j).bad ++ t := by rw [h1]; split <;> rfl
    rw [h3, List.getElem?_append_right (Nat.le_refl _), Nat.sub_self]
    intro e
    have := h2 _ (List.mem_of_getElem? e)
    omega
  · rename_i hc
    rw [if_neg hc] at h1
    replace h1 : (cnt ok l n).bad = (cnt ok l j).bad ++ [(j : Int)] ++ t := h1
    rw [h1, List.append_assoc, List.getElem?_append_right (Nat.le_refl _), Nat.sub_self]
    rfl

theorem nodup_rev {l : List Int} (h : l.Nodup) : l.reverse.Nodup := by
  unfold List.Nodup at h ⊢
  rw [List.pairwise_reverse]
  exact h.imp fun h => h.symm

/-- The votes that count. -/
def kept (ok : V → Bool) (l : List V) : Nat → List V
  | 0 => []
  | j + 1 => match l[j]? with
    | some v => if counts ok (cnt ok l j) v = true then kept ok l j ++ [v] else kept ok l j
    | none => kept ok l j

theorem kept_succ (l : List V) (j : Nat) (h : j < l.length) : kept ok l (j + 1) = if counts ok (cnt ok l j) l[j] = true then kept ok l j ++ [l[j]] else kept ok l j := by
  show (match l[j]? with | some v => if counts ok (cnt ok l j) v = true then kept ok l j ++ [v] else kept ok l j | none => kept ok l j) = _
  rw [List.getElem?_eq_getElem h]

theorem kept_inv (l : List V) : ∀ j, j ≤ l.length → (cnt ok l j).seen = ((kept ok l j).map (·.f0)).reverse ∧ (cnt ok l j).yes = (((kept ok l j).filter (·.f3)).length : Int) ∧ (cnt ok l j).no = (((kept ok l j).filter (fun v => !v.f3)).length : Int) ∧ ((kept ok l j).map (·.f0)).Nodup ∧ ∀ v ∈ kept ok l j, ok v = true := by
  intro j
  induction j with
  | zero => intro _; exact ⟨rfl, rfl, rfl, List.nodup_nil, fun _ h => by cases h⟩
  | succ j ih =>
    intro h
    obtain ⟨h1, h2, h3, h4, h5⟩ := ih (by omega)
    rw [cnt_succ _ _ h, kept_succ _ _ h]
    unfold step
    by_cases hc : counts ok (cnt ok l j) l[j] = true
    · rw [if_pos hc, if_pos hc]
      unfold counts at hc
      rw [Bool.and_eq_true] at hc
      obtain ⟨hc1, hc2⟩ := hc
      have hns : l[j].f0 ∉ (kept ok l j).map (·.f0) := by
        rw [h1] at hc1
        simpa using hc1
      have h4' : ((kept ok l j ++ [l[j]]).map (·.f0)).Nodup := by
        rw [List.map_append, List.nodup_append]
        refine ⟨h4, by simp, ?_⟩
        intro a ha b hb e
        simp only [List.map_cons, List.map_nil, List.mem_singleton] at hb
        subst e; subst hb
        exact hns ha
      have h5' : ∀ v ∈ kept ok l j ++ [l[j]], ok v = true := by
        intro v hv
        rcases List.mem_append.1 hv with hv | hv
        · exact h5 v hv
        · rw [List.mem_singleton.1 hv]; exact hc2
      cases hy : l[j].f3 with
      | true =>
        rw [if_pos rfl]
        refine ⟨?_, ?_, ?_, h4', h5'⟩
        · show l[j].f0 :: (cnt ok l j).seen = _
          rw [h1]; simp
        · show (cnt ok l j).yes + 1 = _
          rw [h2, List.filter_append, List.length_append]; simp [hy]
        · show (cnt ok l j).no = _
          rw [h3, List.filter_append, List.length_append]; simp [hy]
      | false =>
        rw [if_neg (by simp)]
        refine ⟨?_, ?_, ?_, h4', h5'⟩
        · show l[j].f0 :: (cnt ok l j).seen = _
          rw [h1]; simp
        · show (cnt ok l j).yes = _
          rw [h2, List.filter_append, List.length_append]; simp [hy]
        · show (cnt ok l j).no + 1 = _
          rw [h3, List.filter_append, List.length_append]; simp [hy]
    · rw [if_neg hc, if_neg hc]
      exact ⟨h1, h2, h3, h4, h5⟩

/-- Votes of different members, all valid: all count. -/
theorem cnt_all (l : List V) (hd : (l.map (·.f0)).Nodup) (ho : ∀ v ∈ l, ok v = true) : ∀ j, j ≤ l.length → kept ok l j = l.take j ∧ (cnt ok l j).bad = [] := by
  intro j
  induction j with
  | zero => intro _; exact ⟨rfl, rfl⟩
  | succ j ih =>
    intro h
    obtain ⟨h1, h2⟩ := ih (by omega)
    have hs := (kept_inv (ok := ok) l j (by omega)).1
    have hc : counts ok (cnt ok l j) l[j] = true := by
      unfold counts
      rw [Bool.and_eq_true]
      refine ⟨?_, ho _ (List.getElem_mem _)⟩
      rw [hs, h1]
      have hn : l[j].f0 ∉ (l.take j).map (·.f0) := by
        intro hm
        have e : l.map (·.f0) = (l.take j).map (·.f0) ++ (l.drop j).map (·.f0) := by rw [← List.map_append, List.take_append_drop]
        rw [e, List.nodup_append] at hd
        refine hd.2.2 _ hm l[j].f0 ?_ rfl
        rw [List.drop_eq_getElem_cons h]
        exact List.mem_cons_self ..
      simpa using hn
    rw [kept_succ _ _ h, cnt_succ _ _ h, if_pos hc, h1, List.take_succ_eq_append_getElem h]
    refine ⟨rfl, ?_⟩
    unfold step
    rw [if_pos hc]
    split <;> exact h2

theorem cnt_back (l : List V) : (cnt ok (kept ok l l.length).reverse (kept ok l l.length).reverse.length).yes = (cnt ok l l.length).yes ∧ (cnt ok (kept ok l l.length).reverse (kept ok l l.length).reverse.length).no = (cnt ok l l.length).no ∧ (cnt ok (kept ok l l.length).reverse (kept ok l l.length).reverse.length).bad = [] := by
  obtain ⟨_, h2, h3, h4, h5⟩ := kept_inv (ok := ok) l l.length (Nat.le_refl _)
  generalize kept ok l l.length = m at h2 h3 h4 h5
  have hd : (m.reverse.map (·.f0)).Nodup := by rw [List.map_reverse]; exact nodup_rev h4
  have ho : ∀ v ∈ m.reverse, ok v = true := fun v hv => h5 v (List.mem_reverse.1 hv)
  obtain ⟨k1, k2⟩ := cnt_all m.reverse hd ho m.reverse.length (Nat.le_refl _)
  obtain ⟨_, g2, g3, _, _⟩ := kept_inv (ok := ok) m.reverse m.reverse.length (Nat.le_refl _)
  rw [k1, List.take_length] at g2 g3
  refine ⟨?_, ?_, k2⟩
  · rw [g2, h2, List.filter_reverse, List.length_reverse]
  · rw [g3, h3, List.filter_reverse, List.length_reverse]

/-! ### The members that have voted, as a row of truth values -/

def tr (K : Nat) (S : List Int) : List Bool := (List.range K).map fun (m : Nat) => S.contains (m : Int)
theorem tr_length (K : Nat) (S : List Int) : (tr K S).length = K := by simp [tr]
theorem tr_nil (K : Nat) : tr K [] = List.replicate K false := by
  refine List.ext_getElem (by simp [tr]) fun i h1 h2 => ?_
  simp [tr]
theorem tr_get (K : Nat) (S : List Int) (m : Nat) (h : m < K) : (tr K S)[m]'(by rw [tr_length]; exact h) = S.contains (m : Int) := by simp [tr]
theorem tr_set (K : Nat) (S : List Int) (m : Nat) (h : m < K) : (tr K S).set m true = tr K ((m : Int) :: S) := by
  refine List.ext_getElem (by simp [tr]) fun i h1 h2 => ?_
  rw [List.getElem_set]
  simp only [tr, List.getElem_map, List.getElem_range, List.contains_cons]
  split
  · rename_i e; subst e; simp
  · rename_i e
    have : ((i : Int) == (m : Int)) = false := by simp; omega
    rw [this, Bool.false_or]

theorem tr_count (K : Nat) : ∀ S : List Int, S.Nodup → (∀ m ∈ S, 0 ≤ m ∧ m < (K : Int)) → (tr K S).countP id = S.length := by
  intro S
  induction S with
  | nil => intro _ _; rw [tr_nil]; simp [List.countP_replicate]
  | cons a S ih =>
    intro hn hr
    obtain ⟨ha, hS⟩ := List.nodup_cons.1 hn
    obtain ⟨m, rfl⟩ := Int.eq_ofNat_of_zero_le (hr a (List.mem_cons_self ..)).1
    have hm : m < K := by have := (hr (m : Int) (List.mem_cons_self ..)).2; omega
    have h := ih hS (fun x hx => hr x (List.mem_cons_of_mem _ hx))
    have hf : (tr K S)[m]'(by rw [tr_length]; exact hm) = false := by rw [tr_get _ _ _ hm]; simpa using ha
    rw [← tr_set _ _ _ hm, List.countP_set (by rw [tr_length]; exact hm), hf, h]
    simp

theorem seen_le (l : List V) (K : Nat) (hr : ∀ v, ok v = true → 0 ≤ v.f0 ∧ v.f0 < (K : Int)) : (cnt ok l l.length).yes + (cnt ok l l.length).no ≤ (K : Int) := by
  obtain ⟨h1, _, _, h4, h5⟩ := kept_inv (ok := ok) l l.length (Nat.le_refl _)
  have h6 := (cnt_inv (ok := ok) l l.length (Nat.le_refl _)).2.2.2
  have hn : (cnt ok l l.length).seen.Nodup := by rw [h1]; exact nodup_rev h4
  have hb : ∀ m ∈ (cnt ok l l.length).seen, 0 ≤ m ∧ m < (K : Int) := by
    intro m hm
    rw [h1, List.mem_reverse] at hm
    obtain ⟨v, hv, rfl⟩ := List.mem_map.1 hm
    exact hr v (h5 v hv)
  have h7 := tr_count K _ hn hb
  have h8 := List.countP_le_length (p := id) (l := tr K (cnt ok l l.length).seen)
  rw [tr_length] at h8
  omega
end
end Go.Proofs.YtoimnllcniefoaaDoor.Vo
/- (*vote.teller).valid: what it answers. GENERATED by gen_vote.py -/
namespace Go.Proofs.YtoimnllcniefoaaDoor.P
open Go.RowKit Go.Proofs.YtoimnllcniefoaaDoor Go.Proofs.YtoimnllcniefoaaDoorW.PrintWords Go.Proofs.YtoimnllcniefoaaDoorW.PrintLast Go.Proofs.YtoimnllcniefoaaDoorW.PrintMore
set_option linter.unusedVariables false
set_option linter.unusedSimpArgs false

theorem toList_inj (a b : ByteArray) : a.toList = b.toList ↔ a = b := by
  rw [ByteArray.toList_eq, ByteArray.toList_eq, Array.toList_inj]
  exact ⟨ByteArray.ext, fun e => by rw [e]⟩

/-- The teller's struct in its block. -/
def TellerAt (w : World) (tb : Nat) (ch : Int) (A1 : Option Addr) (n1 c1 : Nat) (q num den : Int) (bill : ByteArray) (mb : Nat) : Prop :=
  w.heap[tb]? = some (.cells #[.int .i64 ch, .slice A1 n1 c1, .int .i64 q, .int .i64 num, .int .i64 den, .string bill, .map (some mb)] 64 (0, 0))
/-- What stands behind the box of the vote. -/
structure ValS (w : World) (tb : Nat) (ch : Int) (A1 : Option Addr) (n1 c1 : Nat) (q num den : Int) (bill : ByteArray) (mb : Nat) (m : Int) (b : ByteArray) (c : Int) (y : Bool) (x : Int) (A5 : Option Addr) (n5 c5 : Nat) (A6 : Option Addr) (n6 c6 : Nat) (A : World) : Prop where
  below : Below w.heap.size w A
  t : TellerAt A tb ch A1 n1 c1 q num den bill mb
  v : A.heap[w.heap.size]? = some (.cells #[.int .i64 m, .string b, .int .i64 c, .bool y, .int .i64 x, .slice A5 n5 c5, .slice A6 n6 c6] 33 (0, 0))
section
variable {w : World} {tb : Nat} {ch : Int} {A1 : Option Addr} {n1 c1 : Nat} {q num den : Int} {bill : ByteArray} {mb : Nat} {m : Int} {b : ByteArray} {c : Int} {y : Bool} {x : Int} {A5 : Option Addr} {n5 c5 : Nat} {A6 : Option Addr} {n6 c6 : Nat} {A B : World}
theorem ValS.cells (h : ValS w tb ch A1 n1 c1 q num den bill mb m b c y x A5 n5 c5 A6 n6 c6 A) :
    A.cell? ⟨tb, 0, none⟩ = some (.int .i64 ch) ∧ A.cell? ⟨tb, 1, none⟩ = some (.slice A1 n1 c1) ∧ A.cell? ⟨tb, 5, none⟩ = some (.string bill) ∧
    A.cell? ⟨w.heap.size, 0, none⟩ = some (.int .i64 m) ∧ A.cell? ⟨w.heap.size, 1, none⟩ = some (.string b) ∧ A.cell? ⟨w.heap.size, 2, none⟩ = some (.int .i64 c) ∧ A.cell? ⟨w.heap.size, 3, none⟩ = some (.bool y) ∧ A.cell? ⟨w.heap.size, 4, none⟩ = some (.int .i64 x) ∧ A.cell? ⟨w.heap.size, 5, none⟩ = some (.slice A5 n5 c5) ∧ A.cell? ⟨w.heap.size, 6, none⟩ = some (.slice A6 n6 c6) :=
  ⟨(blk_cell h.t 0).trans rfl, (blk_cell h.t 1).trans rfl, (blk_cell h.t 5).trans rfl, (blk_cell h.v 0).trans rfl, (blk_cell h.v 1).trans rfl, (blk_cell h.v 2).trans rfl, (blk_cell h.v 3).trans rfl, (blk_cell h.v 4).trans rfl, (blk_cell h.v 5).trans rfl, (blk_cell h.v 6).trans rfl⟩
theorem ValS.step (h : ValS w tb ch A1 n1 c1 q num den bill mb m b c y x A5 n5 c5 A6 n6 c6 A) (hb : Below A.heap.size A B) : ValS w tb ch A1 n1 c1 q num den bill mb m b c y x A5 n5 c5 A6 n6 c6 B := ⟨below_step h.below hb, blk_below h.t hb, blk_below h.v hb⟩
theorem ValS.new (h : TellerAt w tb ch A1 n1 c1 q num den bill mb) (m : Int) (b : ByteArray) (c : Int) (y : Bool) (x : Int) (A5 : Option Addr) (n5 c5 : Nat) (A6 : Option Addr) (n6 c6 : Nat) : ValS w tb ch A1 n1 c1 q num den bill mb m b c y x A5 n5 c5 A6 n6 c6 (w.alloc (.cells #[.int .i64 m, .string b, .int .i64 c, .bool y, .int .i64 x, .slice A5 n5 c5, .slice A6 n6 c6] 33)) :=
  ⟨upB (Below.refl _ _), blk_below h (below_alloc (Below.refl _ _) _), blk_new _ _⟩
end


set_option maxHeartbeats 4000000 in
set_option maxRecDepth 100000 in
theorem valid_no1 (w : World) (tb : Nat) (ch : Int) (A1 : Option Addr) (n1 c1 : Nat) (q num den : Int) (bill : ByteArray) (mb : Nat) (m : Int) (b : ByteArray) (c : Int) (y : Bool) (x : Int) (A5 : Option Addr) (n5 c5 : Nat) (A6 : Option Addr) (n6 c6 : Nat)
    (hn : n1 ≤ 9223372036854775807) (ht : TellerAt w tb ch A1 n1 c1 q num den bill mb) (h1 : c ≠ ch) :
    Calls Tryd.prog 53 #[.pointer (some ⟨tb, 0, none⟩), .agg #[.int .i64 m, .string b, .int .i64 c, .bool y, .int .i64 x, .slice A5 n5 c5, .slice A6 n6 c6]] w fun e w' => e = .returned (.bool false) ∧ Below w.heap.size w w' := by
  have HS := ValS.new ht m b c y x A5 n5 c5 A6 n6 c6
  have d0 : (c != ch) = true := bne_iff_ne.2 h1
  have d1 : (c == ch) = false := beq_eq_false_iff_ne.2 h1
  clear ht
  obtain ⟨q0, q1, q2, q3, q4, q5, q6, q7, q8, q9⟩ := HS.cells
  go_enter Tryd.func53, Tryd.ntmps53
  go_wp2
  go_quiet (fail)
  go_wp2
  go_ret
  exact ⟨rfl, upB (Below.refl _ _)⟩


set_option maxHeartbeats 4000000 in
set_option maxRecDepth 100000 in
theorem valid_no2 (w : World) (tb : Nat) (ch : Int) (A1 : Option Addr) (n1 c1 : Nat) (q num den : Int) (bill : ByteArray) (mb : Nat) (m : Int) (b : ByteArray) (c : Int) (y : Bool) (x : Int) (A5 : Option Addr) (n5 c5 : Nat) (A6 : Option Addr) (n6 c6 : Nat)
    (hn : n1 ≤ 9223372036854775807) (ht : TellerAt w tb ch A1 n1 c1 q num den bill mb) (h1 : c = ch) (h2 : b ≠ bill) :
    Calls Tryd.prog 53 #[.pointer (some ⟨tb, 0, none⟩), .agg #[.int .i64 m, .string b, .int .i64 c, .bool y, .int .i64 x, .slice A5 n5 c5, .slice A6 n6 c6]] w fun e w' => e = .returned (.bool false) ∧ Below w.heap.size w w' := by
  have HS := ValS.new ht m b c y x A5 n5 c5 A6 n6 c6
  subst h1
  have d2 : (b.toList != bill.toList) = true := bne_iff_ne.2 fun e => h2 ((toList_inj b bill).1 e)
  have d3 : (b.toList == bill.toList) = false := beq_eq_false_iff_ne.2 fun e => h2 ((toList_inj b bill).1 e)
  clear h2
  clear ht
  obtain ⟨q0, q1, q2, q3, q4, q5, q6, q7, q8, q9⟩ := HS.cells
  go_enter Tryd.func53, Tryd.ntmps53
  go_wp2
  go_quiet (fail)
  go_wp2
  go_ret
  exact ⟨rfl, upB (Below.refl _ _)⟩


set_option maxHeartbeats 4000000 in
set_option maxRecDepth 100000 in
theorem valid_no3 (w : World) (tb : Nat) (ch : Int) (A1 : Option Addr) (n1 c1 : Nat) (q num den : Int) (bill : ByteArray) (mb : Nat) (m : Int) (b : ByteArray) (c : Int) (y : Bool) (x : Int) (A5 : Option Addr) (n5 c5 : Nat) (A6 : Option Addr) (n6 c6 : Nat)
    (hn : n1 ≤ 9223372036854775807) (ht : TellerAt w tb ch A1 n1 c1 q num den bill mb) (h1 : c = ch) (h2 : b = bill) (h3 : m < 0) :
    Calls Tryd.prog 53 #[.pointer (some ⟨tb, 0, none⟩), .agg #[.int .i64 m, .string b, .int .i64 c, .bool y, .int .i64 x, .slice A5 n5 c5, .slice A6 n6 c6]] w fun e w' => e = .returned (.bool false) ∧ Below w.heap.size w w' := by
  have HS := ValS.new ht m b c y x A5 n5 c5 A6 n6 c6
  subst h1
  subst h2
  have d4 : decide (m < 0) = true := decide_eq_true h3
  clear ht
  obtain ⟨q0, q1, q2, q3, q4, q5, q6, q7, q8, q9⟩ := HS.cells
  go_enter Tryd.func53, Tryd.ntmps53
  go_wp2
  go_quiet (fail)
  go_wp2
  go_ret
  exact ⟨rfl, upB (Below.refl _ _)⟩


set_option maxHeartbeats 4000000 in
set_option maxRecDepth 100000 in
theorem valid_no4 (w : World) (tb : Nat) (ch : Int) (A1 : Option Addr) (n1 c1 : Nat) (q num den : Int) (bill : ByteArray) (mb : Nat) (m : Int) (b : ByteArray) (c : Int) (y : Bool) (x : Int) (A5 : Option Addr) (n5 c5 : Nat) (A6 : Option Addr) (n6 c6 : Nat)
    (hn : n1 ≤ 9223372036854775807) (ht : TellerAt w tb ch A1 n1 c1 q num den bill mb) (h1 : c = ch) (h2 : b = bill) (h3 : 0 ≤ m) (h4 : (n1 : Int) ≤ m) :
    Calls Tryd.prog 53 #[.pointer (some ⟨tb, 0, none⟩), .agg #[.int .i64 m, .string b, .int .i64 c, .bool y, .int .i64 x, .slice A5 n5 c5, .slice A6 n6 c6]] w fun e w' => e = .returned (.bool false) ∧ Below w.heap.size w w' := by
  have HS := ValS.new ht m b c y x A5 n5 c5 A6 n6 c6
  subst h1
  subst h2
  have d4 : decide (m < 0) = false := decide_eq_false (by omega)
  have d5 : decide (m ≥ (n1 : Int)) = true := decide_eq_true h4
  have d6 : decide ((n1 : Int) ≤ m) = true := decide_eq_true h4
  clear ht
  obtain ⟨q0, q1, q2, q3, q4, q5, q6, q7, q8, q9⟩ := HS.cells
  go_enter Tryd.func53, Tryd.ntmps53
  go_wp2
  go_quiet (fail)
  go_wp2
  go_ret
  exact ⟨rfl, upB (Below.refl _ _)⟩

theorem vcells {w : World} {tb : Nat} {ch : Int} {ad : Addr} {n1 c1 : Nat} {q num den : Int} {bill : ByteArray} {mb : Nat} {m : Int} {b : ByteArray} {c : Int} {y : Bool} {x : Int} {A5 : Option Addr} {n5 c5 : Nat} {A6 : Option Addr} {n6 c6 : Nat} {A : World} {key : ByteArray} (h : ValS w tb ch (some ad) n1 c1 q num den bill mb m b c y x A5 n5 c5 A6 n6 c6 A) (hk : w.cell? (ad.add m.toNat) = some (.string key)) :
    A.cell? ⟨tb, 1, none⟩ = some (.slice (some ad) n1 c1) ∧ A.cell? ⟨w.heap.size, 0, none⟩ = some (.int .i64 m) ∧ A.cell? ⟨w.heap.size, 1, none⟩ = some (.string b) ∧ A.cell? ⟨w.heap.size, 2, none⟩ = some (.int .i64 c) ∧ A.cell? ⟨w.heap.size, 3, none⟩ = some (.bool y) ∧ A.cell? ⟨w.heap.size, 4, none⟩ = some (.int .i64 x) ∧ A.cell? ⟨w.heap.size, 5, none⟩ = some (.slice A5 n5 c5) ∧ A.cell? ⟨w.heap.size, 6, none⟩ = some (.slice A6 n6 c6) ∧ A.cell? (ad.add m.toNat) = some (.string key) := by
  obtain ⟨_, q1, _, q3, q4, q5, q6, q7, q8, q9⟩ := h.cells
  refine ⟨q1, q3, q4, q5, q6, q7, q8, q9, ?_⟩
  have hlt : (ad.add m.toNat).block < w.heap.size := by
    rcases Nat.lt_or_ge (ad.add m.toNat).block w.heap.size with h' | h'
    · exact h'
    · unfold World.cell? at hk
      simp [Array.getElem?_eq_none h'] at hk
  exact (h.below.cell hlt).trans hk


set_option maxHeartbeats 4000000 in
set_option maxRecDepth 100000 in
theorem valid_yes (w : World) (tb : Nat) (ch : Int) (ad : Addr) (n1 c1 : Nat) (q num den : Int) (bill : ByteArray) (mb : Nat) (m : Int) (b : ByteArray) (c : Int) (y : Bool) (x : Int) (A5 : Option Addr) (n5 c5 : Nat) (A6 : Option Addr) (n6 c6 : Nat)
    (hn : n1 ≤ 9223372036854775807) (ht : TellerAt w tb ch (some ad) n1 c1 q num den bill mb) (key msg : ByteArray) (r : Bool) (h1 : c = ch) (h2 : b = bill) (h3 : 0 ≤ m) (h4 : m < (n1 : Int)) (hk : w.cell? (ad.add m.toNat) = some (.string key))
    (hM : ∀ W : World, Below w.heap.size w W → Calls Tryd.prog 15 #[.agg #[.int .i64 m, .string b, .int .i64 c, .bool y, .int .i64 x, .slice A5 n5 c5, .slice A6 n6 c6]] W fun e w' => e = .returned (.string msg) ∧ Below W.heap.size W w')
    (hV : ∀ W : World, Below w.heap.size w W → Calls Tryd.prog 16 #[.string key, .string msg, .agg #[.int .i64 x, .slice A5 n5 c5, .slice A6 n6 c6]] W fun e w' => e = .returned (.bool r) ∧ Below W.heap.size W w') :
    Calls Tryd.prog 53 #[.pointer (some ⟨tb, 0, none⟩), .agg #[.int .i64 m, .string b, .int .i64 c, .bool y, .int .i64 x, .slice A5 n5 c5, .slice A6 n6 c6]] w fun e w' => e = .returned (.bool r) ∧ Below w.heap.size w w' := by
  have HS := ValS.new ht m b c y x A5 n5 c5 A6 n6 c6
  subst h1
  subst h2
  have HM := Lib.hid hM
  have HV := Lib.hid hV
  have HK := Lib.hid hk
  clear hM hV hk
  have d4 : decide (m < 0) = false := decide_eq_false (by omega)
  have d5 : decide (m ≥ (n1 : Int)) = false := decide_eq_false (by omega)
  have d6 : decide ((n1 : Int) ≤ m) = false := decide_eq_false (by omega)
  clear ht
  obtain ⟨q0, q1, q2, q3, q4, q5, q6, q7, q8, q9⟩ := HS.cells
  go_enter Tryd.func53, Tryd.ntmps53
  go_wp2
  go_quiet (fail)
  go_wp2_with fail
  clear q0 q1 q2 q3 q4 q5 q6 q7 q8 q9
  generalize hW : World.drewN (World.alloc w _) _ = W
  replace HS := HS.step (show Below _ _ W from by rw [← hW]; exact upB (Below.refl _ _))
  clear hW
  replace HS := HS.step (Below.refl _ _).drew
  refine start_ (n := 15) (S := fun w' => w'.cell? ⟨tb, 1, none⟩ = some (.slice (some ad) n1 c1) ∧ w'.cell? ⟨w.heap.size, 0, none⟩ = some (.int .i64 m) ∧ w'.cell? ⟨w.heap.size, 1, none⟩ = some (.string b) ∧ w'.cell? ⟨w.heap.size, 2, none⟩ = some (.int .i64 c) ∧ w'.cell? ⟨w.heap.size, 3, none⟩ = some (.bool y) ∧ w'.cell? ⟨w.heap.size, 4, none⟩ = some (.int .i64 x) ∧ w'.cell? ⟨w.heap.size, 5, none⟩ = some (.slice A5 n5 c5) ∧ w'.cell? ⟨w.heap.size, 6, none⟩ = some (.slice A6 n6 c6) ∧ w'.cell? (ad.add m.toNat) = some (.string key)) (ds := []) #[false, false, false, false, false, false, false, false, false, false, false, false, false, false, false] (by kernel_rfl) rfl rfl (vcells HS HK.out) (fun hHeld => ?_)
  refine pure_ (i := 0) (N := some 38) (v := ?_) (a' := ?_) #[true, false, false, false, false, false, false, false, false, false, false, false, false, false, false] rfl rfl (by kernel_rfl) (fun _ _ _ h => h) (Or.inl ⟨by rfl, ?_⟩) ?_ ?_
  rotate_left
  · intro w'
    go_simp
    with_reducible rfl
  rotate_left
  · simp only [Act.put, List.setIfInBounds_toArray, List.set_cons_zero, List.set_cons_succ, i64_w, i32_w]
    rfl
  refine pure_ (i := 1) (N := some 39) (v := ?_) (a' := ?_) #[true, true, false, false, false, false, false, false, false, false, false, false, false, false, false] rfl rfl (by kernel_rfl) (fun _ _ _ h => h) (Or.inl ⟨by rfl, ?_⟩) ?_ ?_
  rotate_left
  · intro w'
    go_simp
    with_reducible rfl
  rotate_left
  · simp only [Act.put, List.setIfInBounds_toArray, List.set_cons_zero, List.set_cons_succ, i64_w, i32_w]
    rfl
  refine pure_ (i := 2) (N := some 40) (v := ?_) (a' := ?_) #[true, true, true, false, false, false, false, false, false, false, false, false, false, false, false] rfl rfl (by kernel_rfl) (fun _ _ _ h => h) (Or.inl ⟨by rfl, ?_⟩) ?_ ?_
  rotate_left
  · intro w'
    go_simp
    with_reducible rfl
  rotate_left
  · simp only [Act.put, List.setIfInBounds_toArray, List.set_cons_zero, List.set_cons_succ, i64_w, i32_w]
    rfl
  refine pure_ (i := 3) (N := some 41) (v := ?_) (a' := ?_) #[true, true, true, true, false, false, false, false, false, false, false, false, false, false, false] rfl rfl (by kernel_rfl) (fun _ _ _ h => h) (Or.inl ⟨by rfl, ?_⟩) ?_ ?_
  rotate_left
  · intro w'
    go_simp
    with_reducible rfl
  rotate_left
  · simp only [Act.put, List.setIfInBounds_toArray, List.set_cons_zero, List.set_cons_succ, i64_w, i32_w]
    rfl
  refine take_ (i := 4) (N := some 42) (v := ?_) (a' := ?_) #[true, true, true, true, true, false, false, false, false, false, false, false, false, false, false] rfl rfl (by kernel_rfl) (fun _ _ _ h => h) (Or.inl ⟨by rfl, ?_⟩) hHeld ?_ ?_
  rotate_left
  · rintro w' ⟨s0, s1, s2, s3, s4, s5, s6, s7, s8⟩
    go_simp
    with_reducible rfl
  rotate_left
  · simp only [Act.put, List.setIfInBounds_toArray, List.set_cons_zero, List.set_cons_succ, i64_w, i32_w]
    rfl
  refine pure_ (i := 5) (N := some 43) (v := ?_) (a' := ?_) #[true, true, true, true, true, true, false, false, false, false, false, false, false, false, false] rfl rfl (by kernel_rfl) (fun _ _ _ h => h) (Or.inl ⟨by rfl, ?_⟩) ?_ ?_
  rotate_left
  · intro w'
    go_simp
    with_reducible rfl
  rotate_left
  · simp only [Act.put, List.setIfInBounds_toArray, List.set_cons_zero, List.set_cons_succ, i64_w, i32_w]
    rfl
  refine take_ (i := 6) (N := some 44) (v := ?_) (a' := ?_) #[true, true, true, true, true, true, true, false, false, false, false, false, false, false, false] rfl rfl (by kernel_rfl) (fun _ _ _ h => h) (Or.inl ⟨by rfl, ?_⟩) hHeld ?_ ?_
  rotate_left
  · rintro w' ⟨s0, s1, s2, s3, s4, s5, s6, s7, s8⟩
    go_simp
    with_reducible rfl
  rotate_left
  · simp only [Act.put, List.setIfInBounds_toArray, List.set_cons_zero, List.set_cons_succ, i64_w, i32_w]
    rfl
  refine pure_ (i := 7) (N := some 45) (v := ?_) (a' := ?_) #[true, true, true, true, true, true, true, true, false, false, false, false, false, false, false] rfl rfl (by kernel_rfl) (fun _ _ _ h => h) (Or.inl ⟨by rfl, ?_⟩) ?_ ?_
  rotate_left
  · intro w'
    go_simp
    with_reducible rfl
  rotate_left
  · simp only [Act.put, List.setIfInBounds_toArray, List.set_cons_zero, List.set_cons_succ, i64_w, i32_w]
    rfl
  refine take_ (i := 8) (N := some 46) (v := ?_) (a' := ?_) #[true, true, true, true, true, true, true, true, true, false, false, false, false, false, false] rfl rfl (by kernel_rfl) (fun _ _ _ h => h) (Or.inl ⟨by rfl, ?_⟩) hHeld ?_ ?_
  rotate_left
  · rintro w' ⟨s0, s1, s2, s3, s4, s5, s6, s7, s8⟩
    go_simp
    with_reducible rfl
  rotate_left
  · simp only [Act.put, List.setIfInBounds_toArray, List.set_cons_zero, List.set_cons_succ, i64_w, i32_w]
    rfl
  refine take_ (i := 9) (N := some 47) (v := ?_) (a' := ?_) #[true, true, true, true, true, true, true, true, true, true, false, false, false, false, false] rfl rfl (by kernel_rfl) (fun _ _ _ h => h) (Or.inl ⟨by rfl, ?_⟩) hHeld ?_ ?_
  rotate_left
  · rintro w' ⟨s0, s1, s2, s3, s4, s5, s6, s7, s8⟩
    go_simp
    with_reducible rfl
  rotate_left
  · simp only [Act.put, List.setIfInBounds_toArray, List.set_cons_zero, List.set_cons_succ, i64_w, i32_w]
    rfl
  refine pure_ (i := 11) (N := some 49) (v := ?_) (a' := ?_) #[true, true, true, true, true, true, true, true, true, true, false, true, false, false, false] rfl rfl (by kernel_rfl) (fun _ _ _ h => h) (Or.inl ⟨by rfl, ?_⟩) ?_ ?_
  rotate_left
  · intro w'
    go_simp
    with_reducible rfl
  rotate_left
  · simp only [Act.put, List.setIfInBounds_toArray, List.set_cons_zero, List.set_cons_succ, i64_w, i32_w]
    rfl
  refine take_ (i := 12) (N := some 50) (v := ?_) (a' := ?_) #[true, true, true, true, true, true, true, true, true, true, false, true, true, false, false] rfl rfl (by kernel_rfl) (fun _ _ _ h => h) (Or.inl ⟨by rfl, ?_⟩) hHeld ?_ ?_
  rotate_left
  · rintro w' ⟨s0, s1, s2, s3, s4, s5, s6, s7, s8⟩
    go_simp
    with_reducible rfl
  rotate_left
  · simp only [Act.put, List.setIfInBounds_toArray, List.set_cons_zero, List.set_cons_succ, i64_w, i32_w]
    rfl
  refine one_ (i := 10) (N := some 48) #[true, true, true, true, true, true, true, true, true, true, true, true, true, false, false] rfl rfl (by kernel_rfl) (by decide) (fun K hK => ?_)
  refine goes_ Tryd.func15 (by kernel_rfl) rfl #[.agg #[.int .i64 m, .string b, .int .i64 c, .bool y, .int .i64 x, .slice A5 n5 c5, .slice A6 n6 c6]] (by rfl) rfl rfl (by (try simp only [List.map_toArray, List.map_cons, List.map_nil]); first | done | rfl) ?_
  with_reducible refine (HM.out _ HS.below).mono ?_
  rintro e w6 ⟨rfl, hb⟩
  refine ⟨_, rfl, ?_⟩
  replace HS := HS.step hb
  refine hK.out _ _ (vcells HS HK.out) (fun hHeld => ?_)
  clear hK K
  refine norm_ (a' := ?_) ?_ ?_
  rotate_left
  · show Act.put _ (some 48) _ = _
    simp only [Act.put, List.setIfInBounds_toArray, List.set_cons_zero, List.set_cons_succ, i64_w, i32_w]
    rfl
  refine one_ (i := 13) (N := some 51) #[true, true, true, true, true, true, true, true, true, true, true, true, true, true, false] rfl rfl (by kernel_rfl) (by decide) (fun K hK => ?_)
  refine goes_ Tryd.func16 (by kernel_rfl) rfl #[.string key, .string msg, .agg #[.int .i64 x, .slice A5 n5 c5, .slice A6 n6 c6]] (by rfl) rfl rfl (by (try simp only [List.map_toArray, List.map_cons, List.map_nil]); first | done | rfl) ?_
  with_reducible refine (HV.out _ HS.below).mono ?_
  rintro e w7 ⟨rfl, hb2⟩
  refine ⟨_, rfl, ?_⟩
  replace HS := HS.step hb2
  refine hK.out _ _ (vcells HS HK.out) (fun hHeld => ?_)
  clear hK K
  refine norm_ (a' := ?_) ?_ ?_
  rotate_left
  · show Act.put _ (some 51) _ = _
    simp only [Act.put, List.setIfInBounds_toArray, List.set_cons_zero, List.set_cons_succ, i64_w, i32_w]
    rfl
  refine pure_ (i := 14) (N := some 4) (v := ?_) (a' := ?_) #[true, true, true, true, true, true, true, true, true, true, true, true, true, true, true] rfl rfl (by kernel_rfl) (fun _ _ _ h => h) (Or.inl ⟨by rfl, ?_⟩) ?_ ?_
  rotate_left
  · intro w'
    go_simp
    with_reducible rfl
  rotate_left
  · simp only [Act.put, List.setIfInBounds_toArray, List.set_cons_zero, List.set_cons_succ, i64_w, i32_w]
    rfl
  refine done_ (by kernel_rfl) ?_
  go_wp2
  go_ret
  exact ⟨rfl, HS.below⟩

end Go.Proofs.YtoimnllcniefoaaDoor.P
/- (*vote.teller).counts: what it answers and what it notes. GENERATED by gen_vote2.py -/
namespace Go.Proofs.YtoimnllcniefoaaDoor.P
open Go.RowKit Go.Proofs.YtoimnllcniefoaaDoor Go.Proofs.YtoimnllcniefoaaDoorW.PrintWords Go.Proofs.YtoimnllcniefoaaDoorW.PrintLast Go.Proofs.YtoimnllcniefoaaDoorW.PrintMore
set_option linter.unusedVariables false
set_option linter.unusedSimpArgs false

theorem map_zero (w : World) : (zeroValue 4).run Tryd.prog w = .ok (.bool false) w := by kernel_rfl
theorem look_at {w : World} {mb : Nat} {S : List Int} (h : VMap w mb S) (m : Int) : (Instr.lookup 62 (.map (some mb)) (.int .i64 m) false).run Tryd.prog w = .ok (.bool (decide (m ∈ S))) w :=
  vmap_look Tryd.underlying62 Tryd.underlying3 (map_zero w) h m

def CntS (w : World) (tb : Nat) (mb : Nat) (S : List Int) (m : Int) (b : ByteArray) (c : Int) (y : Bool) (x : Int) (A5 : Option Addr) (n5 c5 : Nat) (A6 : Option Addr) (n6 c6 : Nat) (w' : World) : Prop :=
  w'.cell? ⟨tb, 6, none⟩ = some (.map (some mb)) ∧ w'.cell? ⟨w.heap.size, 0, none⟩ = some (.int .i64 m) ∧ w'.cell? ⟨w.heap.size, 1, none⟩ = some (.string b) ∧ w'.cell? ⟨w.heap.size, 2, none⟩ = some (.int .i64 c) ∧ w'.cell? ⟨w.heap.size, 3, none⟩ = some (.bool y) ∧ w'.cell? ⟨w.heap.size, 4, none⟩ = some (.int .i64 x) ∧ w'.cell? ⟨w.heap.size, 5, none⟩ = some (.slice A5 n5 c5) ∧ w'.cell? ⟨w.heap.size, 6, none⟩ = some (.slice A6 n6 c6) ∧ (Instr.lookup 62 (.map (some mb)) (.int .i64 m) false).run Tryd.prog w' = .ok (.bool (decide (m ∈ S))) w'

theorem ccells {w : World} {tb : Nat} {ch : Int} {A1 : Option Addr} {n1 c1 : Nat} {q num den : Int} {bill : ByteArray} {mb : Nat} {m : Int} {b : ByteArray} {c : Int} {y : Bool} {x : Int} {A5 : Option Addr} {n5 c5 : Nat} {A6 : Option Addr} {n6 c6 : Nat} {A : World} {S : List Int} (h : ValS w tb ch A1 n1 c1 q num den bill mb m b c y x A5 n5 c5 A6 n6 c6 A) (hm : VMap A mb S) :
    CntS w tb mb S m b c y x A5 n5 c5 A6 n6 c6 A := by
  obtain ⟨_, _, _, q3, q4, q5, q6, q7, q8, q9⟩ := h.cells
  exact ⟨(blk_cell h.t 6).trans rfl, q3, q4, q5, q6, q7, q8, q9, look_at hm m⟩
theorem vmap_below {w w' : World} {b : Nat} {S : List Int} (h : VMap w b S) (hb : Below w.heap.size w w') : VMap w' b S := vmap_keep h (hb.block b (vmap_lt h))
theorem grown_put (w : World) (b : Nat) (o : Obj) : w.grownBy { w with heap := w.heap.setIfInBounds b o } (some b) :=
  ⟨rfl, rfl, rfl, by simp, fun i hi hne => by
    show (w.heap.setIfInBounds b o)[i]? = _
    rw [Array.getElem?_setIfInBounds]
    split
    · rename_i e; subst e; exact absurd rfl hne
    · rfl⟩


set_option maxHeartbeats 4000000 in
set_option maxRecDepth 100000 in
theorem counts_seen (w : World) (tb : Nat) (ch : Int) (A1 : Option Addr) (n1 c1 : Nat) (q num den : Int) (bill : ByteArray) (mb : Nat) (S : List Int) (m : Int) (b : ByteArray) (c : Int) (y : Bool) (x : Int) (A5 : Option Addr) (n5 c5 : Nat) (A6 : Option Addr) (n6 c6 : Nat)
    (ht : TellerAt w tb ch A1 n1 c1 q num den bill mb) (hv : VMap w mb S) (hs : m ∈ S) :
    Calls Tryd.prog 28 #[.pointer (some ⟨tb, 0, none⟩), .agg #[.int .i64 m, .string b, .int .i64 c, .bool y, .int .i64 x, .slice A5 n5 c5, .slice A6 n6 c6]] w fun e w' => e = .returned (.bool false) ∧ Below w.heap.size w w' := by
  have HS := ValS.new ht m b c y x A5 n5 c5 A6 n6 c6
  have HM := vmap_below hv (upB (w0 := w) (Below.refl _ _) : Below w.heap.size w (w.alloc (.cells #[.int .i64 m, .string b, .int .i64 c, .bool y, .int .i64 x, .slice A5 n5 c5, .slice A6 n6 c6] 33)))
  have hd : decide (m ∈ S) = true := decide_eq_true hs
  clear hs hv
  clear ht
  go_enter Tryd.func28, Tryd.ntmps28
  go_wp2_with fail
  replace HS := HS.step (Below.refl _ _).drew
  replace HM := vmap_below HM (Below.refl _ _).drew
  refine start_ (n := 13) (S := fun w' => CntS w tb mb S m b c y x A5 n5 c5 A6 n6 c6 w') (ds := []) #[false, false, false, false, false, false, false, false, false, false, false, false, false] (by kernel_rfl) rfl rfl (ccells HS HM) (fun hHeld => ?_)
  generalize World.drew _ = w5 at HS HM hHeld ⊢
  refine pure_ (i := 0) (N := some 5) (v := ?_) (a' := ?_) #[true, false, false, false, false, false, false, false, false, false, false, false, false] rfl rfl (by kernel_rfl) (fun _ _ _ h => h) (Or.inl ⟨by rfl, ?_⟩) ?_ ?_
  rotate_left
  · intro w'
    go_simp
    with_reducible rfl
  rotate_left
  · simp only [Act.put, List.setIfInBounds_toArray, List.set_cons_zero, List.set_cons_succ, i64_w, i32_w]
    rfl
  refine pure_ (i := 1) (N := some 6) (v := ?_) (a' := ?_) #[true, true, false, false, false, false, false, false, false, false, false, false, false] rfl rfl (by kernel_rfl) (fun _ _ _ h => h) (Or.inl ⟨by rfl, ?_⟩) ?_ ?_
  rotate_left
  · intro w'
    go_simp
    with_reducible rfl
  rotate_left
  · simp only [Act.put, List.setIfInBounds_toArray, List.set_cons_zero, List.set_cons_succ, i64_w, i32_w]
    rfl
  refine pure_ (i := 2) (N := some 7) (v := ?_) (a' := ?_) #[true, true, true, false, false, false, false, false, false, false, false, false, false] rfl rfl (by kernel_rfl) (fun _ _ _ h => h) (Or.inl ⟨by rfl, ?_⟩) ?_ ?_
  rotate_left
  · intro w'
    go_simp
    with_reducible rfl
  rotate_left
  · simp only [Act.put, List.setIfInBounds_toArray, List.set_cons_zero, List.set_cons_succ, i64_w, i32_w]
    rfl
  refine take_ (i := 3) (N := some 8) (v := ?_) (a' := ?_) #[true, true, true, true, false, false, false, false, false, false, false, false, false] rfl rfl (by kernel_rfl) (fun _ _ _ h => h) (Or.inl ⟨by rfl, ?_⟩) hHeld ?_ ?_
  rotate_left
  · rintro w' ⟨s0, s1, s2, s3, s4, s5, s6, s7, s8⟩
    go_simp
    with_reducible rfl
  rotate_left
  · simp only [Act.put, List.setIfInBounds_toArray, List.set_cons_zero, List.set_cons_succ, i64_w, i32_w]
    rfl
  refine pure_ (i := 4) (N := some 9) (v := ?_) (a' := ?_) #[true, true, true, true, true, false, false, false, false, false, false, false, false] rfl rfl (by kernel_rfl) (fun _ _ _ h => h) (Or.inl ⟨by rfl, ?_⟩) ?_ ?_
  rotate_left
  · intro w'
    go_simp
    with_reducible rfl
  rotate_left
  · simp only [Act.put, List.setIfInBounds_toArray, List.set_cons_zero, List.set_cons_succ, i64_w, i32_w]
    rfl
  refine take_ (i := 5) (N := some 10) (v := ?_) (a' := ?_) #[true, true, true, true, true, true, false, false, false, false, false, false, false] rfl rfl (by kernel_rfl) (fun _ _ _ h => h) (Or.inl ⟨by rfl, ?_⟩) hHeld ?_ ?_
  rotate_left
  · rintro w' ⟨s0, s1, s2, s3, s4, s5, s6, s7, s8⟩
    go_simp
    with_reducible rfl
  rotate_left
  · simp only [Act.put, List.setIfInBounds_toArray, List.set_cons_zero, List.set_cons_succ, i64_w, i32_w]
    rfl
  refine take_ (i := 6) (N := some 11) (v := ?_) (a' := ?_) #[true, true, true, true, true, true, true, false, false, false, false, false, false] rfl rfl (by kernel_rfl) (fun _ _ _ h => h) (Or.inl ⟨by rfl, ?_⟩) hHeld ?_ ?_
  rotate_left
  · rintro w' ⟨s0, s1, s2, s3, s4, s5, s6, s7, s8⟩
    go_simp
    with_reducible rfl
  rotate_left
  · simp only [Act.put, List.setIfInBounds_toArray, List.set_cons_zero, List.set_cons_succ, i64_w, i32_w]
    rfl
  refine pure_ (i := 7) (N := some 12) (v := ?_) (a' := ?_) #[true, true, true, true, true, true, true, true, false, false, false, false, false] rfl rfl (by kernel_rfl) (fun _ _ _ h => h) (Or.inl ⟨by rfl, ?_⟩) ?_ ?_
  rotate_left
  · intro w'
    go_simp
    with_reducible rfl
  rotate_left
  · simp only [Act.put, List.setIfInBounds_toArray, List.set_cons_zero, List.set_cons_succ, i64_w, i32_w]
    rfl
  refine pure_ (i := 8) (N := some 13) (v := undef) (a' := ?_) #[true, true, true, true, true, true, true, true, true, false, false, false, false] rfl rfl (by kernel_rfl) (fun _ _ _ h => h) (Or.inr ⟨by rfl, rfl⟩) ?_ ?_
  rotate_left
  · simp only [Act.put, List.setIfInBounds_toArray, List.set_cons_zero, List.set_cons_succ, i64_w, i32_w]
    rfl
  refine pure_ (i := 9) (N := some 14) (v := undef) (a' := ?_) #[true, true, true, true, true, true, true, true, true, true, false, false, false] rfl rfl (by kernel_rfl) (fun _ _ _ h => h) (Or.inr ⟨by rfl, rfl⟩) ?_ ?_
  rotate_left
  · simp only [Act.put, List.setIfInBounds_toArray, List.set_cons_zero, List.set_cons_succ, i64_w, i32_w]
    rfl
  refine pure_ (i := 10) (N := some 15) (v := undef) (a' := ?_) #[true, true, true, true, true, true, true, true, true, true, true, false, false] rfl rfl (by kernel_rfl) (fun _ _ _ h => h) (Or.inr ⟨by rfl, rfl⟩) ?_ ?_
  rotate_left
  · simp only [Act.put, List.setIfInBounds_toArray, List.set_cons_zero, List.set_cons_succ, i64_w, i32_w]
    rfl
  refine pure_ (i := 11) (N := some 16) (v := undef) (a' := ?_) #[true, true, true, true, true, true, true, true, true, true, true, true, false] rfl rfl (by kernel_rfl) (fun _ _ _ h => h) (Or.inr ⟨by rfl, rfl⟩) ?_ ?_
  rotate_left
  · simp only [Act.put, List.setIfInBounds_toArray, List.set_cons_zero, List.set_cons_succ, i64_w, i32_w]
    rfl
  refine pure_ (i := 12) (N := some 17) (v := ?_) (a' := ?_) #[true, true, true, true, true, true, true, true, true, true, true, true, true] rfl rfl (by kernel_rfl) (fun _ _ _ h => h) (Or.inl ⟨by rfl, ?_⟩) ?_ ?_
  rotate_left
  · intro w'
    go_simp
    with_reducible rfl
  rotate_left
  · simp only [Act.put, List.setIfInBounds_toArray, List.set_cons_zero, List.set_cons_succ, i64_w, i32_w]
    rfl
  refine done_ (by kernel_rfl) ?_
  go_wp2
  go_ret
  exact ⟨rfl, HS.below⟩


set_option maxHeartbeats 4000000 in
set_option maxRecDepth 100000 in
theorem counts_bad (w : World) (tb : Nat) (ch : Int) (A1 : Option Addr) (n1 c1 : Nat) (q num den : Int) (bill : ByteArray) (mb : Nat) (S : List Int) (m : Int) (b : ByteArray) (c : Int) (y : Bool) (x : Int) (A5 : Option Addr) (n5 c5 : Nat) (A6 : Option Addr) (n6 c6 : Nat)
    (ht : TellerAt w tb ch A1 n1 c1 q num den bill mb) (hv : VMap w mb S) (hs : ¬ m ∈ S)
    (hV : ∀ W : World, Below w.heap.size w W → Calls Tryd.prog 53 #[.pointer (some ⟨tb, 0, none⟩), .agg #[.int .i64 m, .string b, .int .i64 c, .bool y, .int .i64 x, .slice A5 n5 c5, .slice A6 n6 c6]] W fun e w' => e = .returned (.bool false) ∧ Below W.heap.size W w') :
    Calls Tryd.prog 28 #[.pointer (some ⟨tb, 0, none⟩), .agg #[.int .i64 m, .string b, .int .i64 c, .bool y, .int .i64 x, .slice A5 n5 c5, .slice A6 n6 c6]] w fun e w' => e = .returned (.bool false) ∧ Below w.heap.size w w' := by
  have HS := ValS.new ht m b c y x A5 n5 c5 A6 n6 c6
  have HM := vmap_below hv (upB (w0 := w) (Below.refl _ _) : Below w.heap.size w (w.alloc (.cells #[.int .i64 m, .string b, .int .i64 c, .bool y, .int .i64 x, .slice A5 n5 c5, .slice A6 n6 c6] 33)))
  have hd : decide (m ∈ S) = false := decide_eq_false hs
  have HV := Lib.hid hV
  clear hV hv
  clear hs
  clear ht
  go_enter Tryd.func28, Tryd.ntmps28
  go_wp2_with fail
  replace HS := HS.step (Below.refl _ _).drew
  replace HM := vmap_below HM (Below.refl _ _).drew
  refine start_ (n := 13) (S := fun w' => CntS w tb mb S m b c y x A5 n5 c5 A6 n6 c6 w') (ds := []) #[false, false, false, false, false, false, false, false, false, false, false, false, false] (by kernel_rfl) rfl rfl (ccells HS HM) (fun hHeld => ?_)
  generalize World.drew _ = w5 at HS HM hHeld ⊢
  refine pure_ (i := 0) (N := some 5) (v := ?_) (a' := ?_) #[true, false, false, false, false, false, false, false, false, false, false, false, false] rfl rfl (by kernel_rfl) (fun _ _ _ h => h) (Or.inl ⟨by rfl, ?_⟩) ?_ ?_
  rotate_left
  · intro w'
    go_simp
    with_reducible rfl
  rotate_left
  · simp only [Act.put, List.setIfInBounds_toArray, List.set_cons_zero, List.set_cons_succ, i64_w, i32_w]
    rfl
  refine pure_ (i := 1) (N := some 6) (v := ?_) (a' := ?_) #[true, true, false, false, false, false, false, false, false, false, false, false, false] rfl rfl (by kernel_rfl) (fun _ _ _ h => h) (Or.inl ⟨by rfl, ?_⟩) ?_ ?_
  rotate_left
  · intro w'
    go_simp
    with_reducible rfl
  rotate_left
  · simp only [Act.put, List.setIfInBounds_toArray, List.set_cons_zero, List.set_cons_succ, i64_w, i32_w]
    rfl
  refine pure_ (i := 2) (N := some 7) (v := ?_) (a' := ?_) #[true, true, true, false, false, false, false, false, false, false, false, false, false] rfl rfl (by kernel_rfl) (fun _ _ _ h => h) (Or.inl ⟨by rfl, ?_⟩) ?_ ?_
  rotate_left
  · intro w'
    go_simp
    with_reducible rfl
  rotate_left
  · simp only [Act.put, List.setIfInBounds_toArray, List.set_cons_zero, List.set_cons_succ, i64_w, i32_w]
    rfl
  refine take_ (i := 3) (N := some 8) (v := ?_) (a' := ?_) #[true, true, true, true, false, false, false, false, false, false, false, false, false] rfl rfl (by kernel_rfl) (fun _ _ _ h => h) (Or.inl ⟨by rfl, ?_⟩) hHeld ?_ ?_
  rotate_left
  · rintro w' ⟨s0, s1, s2, s3, s4, s5, s6, s7, s8⟩
    go_simp
    with_reducible rfl
  rotate_left
  · simp only [Act.put, List.setIfInBounds_toArray, List.set_cons_zero, List.set_cons_succ, i64_w, i32_w]
    rfl
  refine pure_ (i := 4) (N := some 9) (v := ?_) (a' := ?_) #[true, true, true, true, true, false, false, false, false, false, false, false, false] rfl rfl (by kernel_rfl) (fun _ _ _ h => h) (Or.inl ⟨by rfl, ?_⟩) ?_ ?_
  rotate_left
  · intro w'
    go_simp
    with_reducible rfl
  rotate_left
  · simp only [Act.put, List.setIfInBounds_toArray, List.set_cons_zero, List.set_cons_succ, i64_w, i32_w]
    rfl
  refine take_ (i := 5) (N := some 10) (v := ?_) (a' := ?_) #[true, true, true, true, true, true, false, false, false, false, false, false, false] rfl rfl (by kernel_rfl) (fun _ _ _ h => h) (Or.inl ⟨by rfl, ?_⟩) hHeld ?_ ?_
  rotate_left
  · rintro w' ⟨s0, s1, s2, s3, s4, s5, s6, s7, s8⟩
    go_simp
    with_reducible rfl
  rotate_left
  · simp only [Act.put, List.setIfInBounds_toArray, List.set_cons_zero, List.set_cons_succ, i64_w, i32_w]
    rfl
  refine take_ (i := 6) (N := some 11) (v := ?_) (a' := ?_) #[true, true, true, true, true, true, true, false, false, false, false, false, false] rfl rfl (by kernel_rfl) (fun _ _ _ h => h) (Or.inl ⟨by rfl, ?_⟩) hHeld ?_ ?_
  rotate_left
  · rintro w' ⟨s0, s1, s2, s3, s4, s5, s6, s7, s8⟩
    go_simp
    with_reducible rfl
  rotate_left
  · simp only [Act.put, List.setIfInBounds_toArray, List.set_cons_zero, List.set_cons_succ, i64_w, i32_w]
    rfl
  refine pure_ (i := 7) (N := some 12) (v := ?_) (a' := ?_) #[true, true, true, true, true, true, true, true, false, false, false, false, false] rfl rfl (by kernel_rfl) (fun _ _ _ h => h) (Or.inl ⟨by rfl, ?_⟩) ?_ ?_
  rotate_left
  · intro w'
    go_simp
    with_reducible rfl
  rotate_left
  · simp only [Act.put, List.setIfInBounds_toArray, List.set_cons_zero, List.set_cons_succ, i64_w, i32_w]
    rfl
  refine pure_ (i := 8) (N := some 13) (v := ?_) (a' := ?_) #[true, true, true, true, true, true, true, true, true, false, false, false, false] rfl rfl (by kernel_rfl) (fun _ _ _ h => h) (Or.inl ⟨by rfl, ?_⟩) ?_ ?_
  rotate_left
  · intro w'
    go_simp
    with_reducible rfl
  rotate_left
  · simp only [Act.put, List.setIfInBounds_toArray, List.set_cons_zero, List.set_cons_succ, i64_w, i32_w]
    rfl
  refine take_ (i := 9) (N := some 14) (v := ?_) (a' := ?_) #[true, true, true, true, true, true, true, true, true, true, false, false, false] rfl rfl (by kernel_rfl) (fun _ _ _ h => h) (Or.inl ⟨by rfl, ?_⟩) hHeld ?_ ?_
  rotate_left
  · rintro w' ⟨s0, s1, s2, s3, s4, s5, s6, s7, s8⟩
    go_simp
    with_reducible rfl
  rotate_left
  · simp only [Act.put, List.setIfInBounds_toArray, List.set_cons_zero, List.set_cons_succ, i64_w, i32_w]
    rfl
  refine one_ (i := 10) (N := some 15) #[true, true, true, true, true, true, true, true, true, true, true, false, false] rfl rfl (by kernel_rfl) (by decide) (fun K hK => ?_)
  refine goes_ Tryd.func53 (by kernel_rfl) rfl #[.pointer (some ⟨tb, 0, none⟩), .agg #[.int .i64 m, .string b, .int .i64 c, .bool y, .int .i64 x, .slice A5 n5 c5, .slice A6 n6 c6]] (by rfl) rfl rfl (by (try simp only [List.map_toArray, List.map_cons, List.map_nil]); first | done | rfl) ?_
  with_reducible refine (HV.out _ HS.below).mono ?_
  rintro e w6 ⟨rfl, hb⟩
  refine ⟨_, rfl, ?_⟩
  replace HS := HS.step hb
  replace HM := vmap_below HM hb
  refine hK.out _ _ (ccells HS HM) (fun hHeld => ?_)
  clear hK K
  refine norm_ (a' := ?_) ?_ ?_
  rotate_left
  · show Act.put _ (some 15) _ = _
    simp only [Act.put, List.setIfInBounds_toArray, List.set_cons_zero, List.set_cons_succ, i64_w, i32_w]
    rfl
  refine pure_ (i := 11) (N := some 16) (v := ?_) (a' := ?_) #[true, true, true, true, true, true, true, true, true, true, true, true, false] rfl rfl (by kernel_rfl) (fun _ _ _ h => h) (Or.inl ⟨by rfl, ?_⟩) ?_ ?_
  rotate_left
  · intro w'
    go_simp
    with_reducible rfl
  rotate_left
  · simp only [Act.put, List.setIfInBounds_toArray, List.set_cons_zero, List.set_cons_succ, i64_w, i32_w]
    rfl
  refine pure_ (i := 12) (N := some 17) (v := ?_) (a' := ?_) #[true, true, true, true, true, true, true, true, true, true, true, true, true] rfl rfl (by kernel_rfl) (fun _ _ _ h => h) (Or.inl ⟨by rfl, ?_⟩) ?_ ?_
  rotate_left
  · intro w'
    go_simp
    with_reducible rfl
  rotate_left
  · simp only [Act.put, List.setIfInBounds_toArray, List.set_cons_zero, List.set_cons_succ, i64_w, i32_w]
    rfl
  refine done_ (by kernel_rfl) ?_
  go_wp2
  go_ret
  exact ⟨rfl, HS.below⟩


set_option maxHeartbeats 4000000 in
set_option maxRecDepth 100000 in
theorem counts_good (w : World) (tb : Nat) (ch : Int) (A1 : Option Addr) (n1 c1 : Nat) (q num den : Int) (bill : ByteArray) (mb : Nat) (S : List Int) (m : Int) (b : ByteArray) (c : Int) (y : Bool) (x : Int) (A5 : Option Addr) (n5 c5 : Nat) (A6 : Option Addr) (n6 c6 : Nat)
    (ht : TellerAt w tb ch A1 n1 c1 q num den bill mb) (hv : VMap w mb S) (hs : ¬ m ∈ S)
    (hV : ∀ W : World, Below w.heap.size w W → Calls Tryd.prog 53 #[.pointer (some ⟨tb, 0, none⟩), .agg #[.int .i64 m, .string b, .int .i64 c, .bool y, .int .i64 x, .slice A5 n5 c5, .slice A6 n6 c6]] W fun e w' => e = .returned (.bool true) ∧ Below W.heap.size W w') :
    Calls Tryd.prog 28 #[.pointer (some ⟨tb, 0, none⟩), .agg #[.int .i64 m, .string b, .int .i64 c, .bool y, .int .i64 x, .slice A5 n5 c5, .slice A6 n6 c6]] w fun e w' => e = .returned (.bool true) ∧ w.grownBy w' (some mb) ∧ VMap w' mb (m :: S) := by
  have HS := ValS.new ht m b c y x A5 n5 c5 A6 n6 c6
  have HM := vmap_below hv (upB (w0 := w) (Below.refl _ _) : Below w.heap.size w (w.alloc (.cells #[.int .i64 m, .string b, .int .i64 c, .bool y, .int .i64 x, .slice A5 n5 c5, .slice A6 n6 c6] 33)))
  have hd : decide (m ∈ S) = false := decide_eq_false hs
  have HV := Lib.hid hV
  clear hV hv
  have HN := Lib.hid hs
  clear hs
  clear ht
  go_enter Tryd.func28, Tryd.ntmps28
  go_wp2_with fail
  replace HS := HS.step (Below.refl _ _).drew
  replace HM := vmap_below HM (Below.refl _ _).drew
  refine start_ (n := 13) (S := fun w' => CntS w tb mb S m b c y x A5 n5 c5 A6 n6 c6 w') (ds := []) #[false, false, false, false, false, false, false, false, false, false, false, false, false] (by kernel_rfl) rfl rfl (ccells HS HM) (fun hHeld => ?_)
  generalize World.drew _ = w5 at HS HM hHeld ⊢
  refine pure_ (i := 0) (N := some 5) (v := ?_) (a' := ?_) #[true, false, false, false, false, false, false, false, false, false, false, false, false] rfl rfl (by kernel_rfl) (fun _ _ _ h => h) (Or.inl ⟨by rfl, ?_⟩) ?_ ?_
  rotate_left
  · intro w'
    go_simp
    with_reducible rfl
  rotate_left
  · simp only [Act.put, List.setIfInBounds_toArray, List.set_cons_zero, List.set_cons_succ, i64_w, i32_w]
    rfl
  refine pure_ (i := 1) (N := some 6) (v := ?_) (a' := ?_) #[true, true, false, false, false, false, false, false, false, false, false, false, false] rfl rfl (by kernel_rfl) (fun _ _ _ h => h) (Or.inl ⟨by rfl, ?_⟩) ?_ ?_
  rotate_left
  · intro w'
    go_simp
    with_reducible rfl
  rotate_left
  · simp only [Act.put, List.setIfInBounds_toArray, List.set_cons_zero, List.set_cons_succ, i64_w, i32_w]
    rfl
  refine pure_ (i := 2) (N := some 7) (v := ?_) (a' := ?_) #[true, true, true, false, false, false, false, false, false, false, false, false, false] rfl rfl (by kernel_rfl) (fun _ _ _ h => h) (Or.inl ⟨by rfl, ?_⟩) ?_ ?_
  rotate_left
  · intro w'
    go_simp
    with_reducible rfl
  rotate_left
  · simp only [Act.put, List.setIfInBounds_toArray, List.set_cons_zero, List.set_cons_succ, i64_w, i32_w]
    rfl
  refine take_ (i := 3) (N := some 8) (v := ?_) (a' := ?_) #[true, true, true, true, false, false, false, false, false, false, false, false, false] rfl rfl (by kernel_rfl) (fun _ _ _ h => h) (Or.inl ⟨by rfl, ?_⟩) hHeld ?_ ?_
  rotate_left
  · rintro w' ⟨s0, s1, s2, s3, s4, s5, s6, s7, s8⟩
    go_simp
    with_reducible rfl
  rotate_left
  · simp only [Act.put, List.setIfInBounds_toArray, List.set_cons_zero, List.set_cons_succ, i64_w, i32_w]
    rfl
  refine pure_ (i := 4) (N := some 9) (v := ?_) (a' := ?_) #[true, true, true, true, true, false, false, false, false, false, false, false, false] rfl rfl (by kernel_rfl) (fun _ _ _ h => h) (Or.inl ⟨by rfl, ?_⟩) ?_ ?_
  rotate_left
  · intro w'
    go_simp
    with_reducible rfl
  rotate_left
  · simp only [Act.put, List.setIfInBounds_toArray, List.set_cons_zero, List.set_cons_succ, i64_w, i32_w]
    rfl
  refine take_ (i := 5) (N := some 10) (v := ?_) (a' := ?_) #[true, true, true, true, true, true, false, false, false, false, false, false, false] rfl rfl (by kernel_rfl) (fun _ _ _ h => h) (Or.inl ⟨by rfl, ?_⟩) hHeld ?_ ?_
  rotate_left
  · rintro w' ⟨s0, s1, s2, s3, s4, s5, s6, s7, s8⟩
    go_simp
    with_reducible rfl
  rotate_left
  · simp only [Act.put, List.setIfInBounds_toArray, List.set_cons_zero, List.set_cons_succ, i64_w, i32_w]
    rfl
  refine take_ (i := 6) (N := some 11) (v := ?_) (a' := ?_) #[true, true, true, true, true, true, true, false, false, false, false, false, false] rfl rfl (by kernel_rfl) (fun _ _ _ h => h) (Or.inl ⟨by rfl, ?_⟩) hHeld ?_ ?_
  rotate_left
  · rintro w' ⟨s0, s1, s2, s3, s4, s5, s6, s7, s8⟩
    go_simp
    with_reducible rfl
  rotate_left
  · simp only [Act.put, List.setIfInBounds_toArray, List.set_cons_zero, List.set_cons_succ, i64_w, i32_w]
    rfl
  refine pure_ (i := 7) (N := some 12) (v := ?_) (a' := ?_) #[true, true, true, true, true, true, true, true, false, false, false, false, false] rfl rfl (by kernel_rfl) (fun _ _ _ h => h) (Or.inl ⟨by rfl, ?_⟩) ?_ ?_
  rotate_left
  · intro w'
    go_simp
    with_reducible rfl
  rotate_left
  · simp only [Act.put, List.setIfInBounds_toArray, List.set_cons_zero, List.set_cons_succ, i64_w, i32_w]
    rfl
  refine pure_ (i := 8) (N := some 13) (v := ?_) (a' := ?_) #[true, true, true, true, true, true, true, true, true, false, false, false, false] rfl rfl (by kernel_rfl) (fun _ _ _ h => h) (Or.inl ⟨by rfl, ?_⟩) ?_ ?_
  rotate_left
  · intro w'
    go_simp
    with_reducible rfl
  rotate_left
  · simp only [Act.put, List.setIfInBounds_toArray, List.set_cons_zero, List.set_cons_succ, i64_w, i32_w]
    rfl
  refine take_ (i := 9) (N := some 14) (v := ?_) (a' := ?_) #[true, true, true, true, true, true, true, true, true, true, false, false, false] rfl rfl (by kernel_rfl) (fun _ _ _ h => h) (Or.inl ⟨by rfl, ?_⟩) hHeld ?_ ?_
  rotate_left
  · rintro w' ⟨s0, s1, s2, s3, s4, s5, s6, s7, s8⟩
    go_simp
    with_reducible rfl
  rotate_left
  · simp only [Act.put, List.setIfInBounds_toArray, List.set_cons_zero, List.set_cons_succ, i64_w, i32_w]
    rfl
  refine one_ (i := 10) (N := some 15) #[true, true, true, true, true, true, true, true, true, true, true, false, false] rfl rfl (by kernel_rfl) (by decide) (fun K hK => ?_)
  refine goes_ Tryd.func53 (by kernel_rfl) rfl #[.pointer (some ⟨tb, 0, none⟩), .agg #[.int .i64 m, .string b, .int .i64 c, .bool y, .int .i64 x, .slice A5 n5 c5, .slice A6 n6 c6]] (by rfl) rfl rfl (by (try simp only [List.map_toArray, List.map_cons, List.map_nil]); first | done | rfl) ?_
  with_reducible refine (HV.out _ HS.below).mono ?_
  rintro e w6 ⟨rfl, hb⟩
  refine ⟨_, rfl, ?_⟩
  replace HS := HS.step hb
  replace HM := vmap_below HM hb
  refine hK.out _ _ (ccells HS HM) (fun hHeld => ?_)
  clear hK K
  refine norm_ (a' := ?_) ?_ ?_
  rotate_left
  · show Act.put _ (some 15) _ = _
    simp only [Act.put, List.setIfInBounds_toArray, List.set_cons_zero, List.set_cons_succ, i64_w, i32_w]
    rfl
  refine pure_ (i := 11) (N := some 16) (v := ?_) (a' := ?_) #[true, true, true, true, true, true, true, true, true, true, true, true, false] rfl rfl (by kernel_rfl) (fun _ _ _ h => h) (Or.inl ⟨by rfl, ?_⟩) ?_ ?_
  rotate_left
  · intro w'
    go_simp
    with_reducible rfl
  rotate_left
  · simp only [Act.put, List.setIfInBounds_toArray, List.set_cons_zero, List.set_cons_succ, i64_w, i32_w]
    rfl
  refine pure_ (i := 12) (N := some 17) (v := ?_) (a' := ?_) #[true, true, true, true, true, true, true, true, true, true, true, true, true] rfl rfl (by kernel_rfl) (fun _ _ _ h => h) (Or.inl ⟨by rfl, ?_⟩) ?_ ?_
  rotate_left
  · intro w'
    go_simp
    with_reducible rfl
  rotate_left
  · simp only [Act.put, List.setIfInBounds_toArray, List.set_cons_zero, List.set_cons_succ, i64_w, i32_w]
    rfl
  refine done_ (by kernel_rfl) ?_
  go_wp2_with fail
  replace HS := HS.step (Below.refl _ _).drew
  replace HM := vmap_below HM (Below.refl _ _).drew
  refine start_ (n := 7) (S := fun w' => CntS w tb mb S m b c y x A5 n5 c5 A6 n6 c6 w') (ds := [6]) #[false, false, false, false, false, false, false] (by kernel_rfl) rfl rfl (ccells HS HM) (fun hHeld => ?_)
  generalize World.drew _ = w7 at HS HM hHeld ⊢
  obtain ⟨o, hrun, hm2⟩ := vmap_put Tryd.underlying62 Tryd.underlying3 HM m HN.out
  have HM2 := Lib.hid hm2
  clear hm2
  refine pure_ (i := 0) (N := some 18) (v := ?_) (a' := ?_) #[true, false, false, false, false, false, false] rfl rfl (by kernel_rfl) (fun _ _ _ h => h) (Or.inl ⟨by rfl, ?_⟩) ?_ ?_
  rotate_left
  · intro w'
    go_simp
    with_reducible rfl
  rotate_left
  · simp only [Act.put, List.setIfInBounds_toArray, List.set_cons_zero, List.set_cons_succ, i64_w, i32_w]
    rfl
  refine pure_ (i := 1) (N := some 19) (v := ?_) (a' := ?_) #[true, true, false, false, false, false, false] rfl rfl (by kernel_rfl) (fun _ _ _ h => h) (Or.inl ⟨by rfl, ?_⟩) ?_ ?_
  rotate_left
  · intro w'
    go_simp
    with_reducible rfl
  rotate_left
  · simp only [Act.put, List.setIfInBounds_toArray, List.set_cons_zero, List.set_cons_succ, i64_w, i32_w]
    rfl
  refine pure_ (i := 2) (N := some 20) (v := ?_) (a' := ?_) #[true, true, true, false, false, false, false] rfl rfl (by kernel_rfl) (fun _ _ _ h => h) (Or.inl ⟨by rfl, ?_⟩) ?_ ?_
  rotate_left
  · intro w'
    go_simp
    with_reducible rfl
  rotate_left
  · simp only [Act.put, List.setIfInBounds_toArray, List.set_cons_zero, List.set_cons_succ, i64_w, i32_w]
    rfl
  refine take_ (i := 3) (N := some 21) (v := ?_) (a' := ?_) #[true, true, true, true, false, false, false] rfl rfl (by kernel_rfl) (fun _ _ _ h => h) (Or.inl ⟨by rfl, ?_⟩) hHeld ?_ ?_
  rotate_left
  · rintro w' ⟨s0, s1, s2, s3, s4, s5, s6, s7, s8⟩
    go_simp
    with_reducible rfl
  rotate_left
  · simp only [Act.put, List.setIfInBounds_toArray, List.set_cons_zero, List.set_cons_succ, i64_w, i32_w]
    rfl
  refine pure_ (i := 4) (N := some 22) (v := ?_) (a' := ?_) #[true, true, true, true, true, false, false] rfl rfl (by kernel_rfl) (fun _ _ _ h => h) (Or.inl ⟨by rfl, ?_⟩) ?_ ?_
  rotate_left
  · intro w'
    go_simp
    with_reducible rfl
  rotate_left
  · simp only [Act.put, List.setIfInBounds_toArray, List.set_cons_zero, List.set_cons_succ, i64_w, i32_w]
    rfl
  refine take_ (i := 5) (N := some 23) (v := ?_) (a' := ?_) #[true, true, true, true, true, true, false] rfl rfl (by kernel_rfl) (fun _ _ _ h => h) (Or.inl ⟨by rfl, ?_⟩) hHeld ?_ ?_
  rotate_left
  · rintro w' ⟨s0, s1, s2, s3, s4, s5, s6, s7, s8⟩
    go_simp
    with_reducible rfl
  rotate_left
  · simp only [Act.put, List.setIfInBounds_toArray, List.set_cons_zero, List.set_cons_succ, i64_w, i32_w]
    rfl
  refine last_ (i := 6) (N := none) #[true, true, true, true, true, true, true] rfl rfl (by kernel_rfl) (by decide) (fun K hK => ?_)
  refine skip_ (w1 := ?_) (by rfl) rfl ?_ ?_
  rotate_left
  · go_simp
    rfl
  refine hK.out _ _ ?_
  clear hK K
  refine done_ (by kernel_rfl) ?_
  clear hrun
  go_wp2
  go_ret
  exact ⟨rfl, (grown_of_below HS.below _).trans (grown_put _ _ _), HM2.out⟩

end Go.Proofs.YtoimnllcniefoaaDoor.P
/- vote.Count: its loop over the votes, for a proper roll and for one that is not. -/
namespace Go.Proofs.YtoimnllcniefoaaDoor.P
open Go.RowKit Go.Proofs.YtoimnllcniefoaaDoor Go.Proofs.YtoimnllcniefoaaDoorW.PrintWords Go.Proofs.YtoimnllcniefoaaDoorW.PrintLast Go.Proofs.YtoimnllcniefoaaDoorW.PrintMore
set_option linter.unusedVariables false
set_option linter.unusedSimpArgs false

theorem infoInt : (Tryd.prog.info? 3).map (fun i => (i.zero, i.size, i.bytes)) = some (some (.int .i64 0), 1, 8) := by kernel_rfl

/-- Between two rounds. -/
structure LoS (w : World) (ch : Int) (A1 : Option Addr) (n1 c1 : Nat) (q num den : Int) (bill : ByteArray) (s : Vo.Cn) (v : Value) (A : World) : Prop where
  below : Below w.heap.size w A
  t : TellerAt A (w.heap.size + 1 + 1) ch A1 n1 c1 q num den bill (w.heap.size + 1)
  m : VMap A (w.heap.size + 1) s.seen
  row : Kd.R (Kd.int .i64) 3 A w.heap.size (fun k => k ≠ w.heap.size + 1 ∧ k ≠ w.heap.size + 1 + 1) v s.bad
section
variable {w : World} {ch : Int} {A1 : Option Addr} {n1 c1 : Nat} {q num den : Int} {bill : ByteArray} {s s2 : Vo.Cn} {v v1 : Value} {A B : World}
theorem LoS.step (h : LoS w ch A1 n1 c1 q num den bill s v A) (hb : Below A.heap.size A B) : LoS w ch A1 n1 c1 q num den bill s v B :=
  ⟨below_step h.below hb, blk_below h.t hb, vmap_below h.m hb, Kd.R_below h.row hb⟩
theorem LoS.noted (h : LoS w ch A1 n1 c1 q num den bill s v A) (hg : A.grownBy B (some (w.heap.size + 1))) (hm : VMap B (w.heap.size + 1) s2.seen) (hb : s2.bad = s.bad) : LoS w ch A1 n1 c1 q num den bill s2 v B :=
  ⟨h.below.grown hg h.below.size (fun k e => by cases e; omega), blk_grown h.t hg (by simp), hm, hb ▸ Kd.R_grown h.row hg (fun k hk e => by cases e; exact hk.1 rfl)⟩
theorem LoS.same (h : LoS w ch A1 n1 c1 q num den bill s v A) (hs : s2.seen = s.seen) (hb : s2.bad = s.bad) : LoS w ch A1 n1 c1 q num den bill s2 v A :=
  ⟨h.below, h.t, hs ▸ h.m, hb ▸ h.row⟩
theorem LoS.found (h : LoS w ch A1 n1 c1 q num den bill s v A) (ho : Kd.R (Kd.int .i64) 3 B w.heap.size (fun k => k ≠ w.heap.size + 1 ∧ k ≠ w.heap.size + 1 + 1) v1 s2.bad) (hb : Below w.heap.size w B) (hg : A.grownBy B v.ownBlock) (hs : s2.seen = s.seen) : LoS w ch A1 n1 c1 q num den bill s2 v1 B := by
  have e1 : some (w.heap.size + 1) ≠ v.ownBlock := fun e => (h.row.1 _ e.symm).1 rfl
  have e2 : some (w.heap.size + 1 + 1) ≠ v.ownBlock := fun e => (h.row.1 _ e.symm).2 rfl
  exact ⟨hb, blk_grown h.t hg e2, vmap_keep (hs ▸ h.m) (hg.block _ (vmap_lt h.m) e1), ho⟩
end

theorem cnt_no {w : World} {ch : Int} {A1 : Option Addr} {n1 c1 : Nat} {q num den : Int} {bill : ByteArray} {s : Vo.Cn} {v : Value} {A : World} {ok : Vo.V → Bool} (x : Vo.V) (A5 : Option Addr) (c5 : Nat) (A6 : Option Addr) (c6 : Nat) (h : LoS w ch A1 n1 c1 q num den bill s v A) (hc : Vo.counts ok s x = false)
    (hV : ∀ W : World, Below A.heap.size A W → Calls Tryd.prog 53 #[.pointer (some ⟨w.heap.size + 1 + 1, 0, none⟩), .agg #[.int .i64 x.f0, .string x.f1, .int .i64 x.f2, .bool x.f3, .int .i64 x.f4.f0, .slice A5 x.f4.f1.length c5, .slice A6 x.f4.f2.length c6]] W fun e w' => e = .returned (.bool (ok x)) ∧ Below W.heap.size W w') :
    Calls Tryd.prog 28 #[.pointer (some ⟨w.heap.size + 1 + 1, 0, none⟩), .agg #[.int .i64 x.f0, .string x.f1, .int .i64 x.f2, .bool x.f3, .int .i64 x.f4.f0, .slice A5 x.f4.f1.length c5, .slice A6 x.f4.f2.length c6]] A fun e w' => e = .returned (.bool false) ∧ Below A.heap.size A w' := by
  by_cases hs : x.f0 ∈ s.seen
  · exact counts_seen A _ ch A1 n1 c1 q num den bill _ s.seen _ _ _ _ _ _ _ _ _ _ _ h.t h.m hs
  · have ho : ok x = false := by
      unfold Vo.counts at hc
      simpa [hs] using hc
    rw [ho] at hV
    exact counts_bad A _ ch A1 n1 c1 q num den bill _ s.seen _ _ _ _ _ _ _ _ _ _ _ h.t h.m hs hV
theorem cnt_ok {w : World} {ch : Int} {A1 : Option Addr} {n1 c1 : Nat} {q num den : Int} {bill : ByteArray} {s : Vo.Cn} {v : Value} {A : World} {ok : Vo.V → Bool} (x : Vo.V) (A5 : Option Addr) (c5 : Nat) (A6 : Option Addr) (c6 : Nat) (h : LoS w ch A1 n1 c1 q num den bill s v A) (hc : Vo.counts ok s x = true)
    (hV : ∀ W : World, Below A.heap.size A W → Calls Tryd.prog 53 #[.pointer (some ⟨w.heap.size + 1 + 1, 0, none⟩), .agg #[.int .i64 x.f0, .string x.f1, .int .i64 x.f2, .bool x.f3, .int .i64 x.f4.f0, .slice A5 x.f4.f1.length c5, .slice A6 x.f4.f2.length c6]] W fun e w' => e = .returned (.bool (ok x)) ∧ Below W.heap.size W w') :
    Calls Tryd.prog 28 #[.pointer (some ⟨w.heap.size + 1 + 1, 0, none⟩), .agg #[.int .i64 x.f0, .string x.f1, .int .i64 x.f2, .bool x.f3, .int .i64 x.f4.f0, .slice A5 x.f4.f1.length c5, .slice A6 x.f4.f2.length c6]] A fun e w' => e = .returned (.bool true) ∧ A.grownBy w' (some (w.heap.size + 1)) ∧ VMap w' (w.heap.size + 1) (x.f0 :: s.seen) := by
  unfold Vo.counts at hc
  rw [Bool.and_eq_true] at hc
  have hs : ¬ x.f0 ∈ s.seen := by simpa using hc.1
  rw [hc.2] at hV
  exact counts_good A _ ch A1 n1 c1 q num den bill _ s.seen _ _ _ _ _ _ _ _ _ _ _ h.t h.m hs hV

theorem one_at {l : List Vo.V} {w W : World} {A : Option Addr} (h : Kd.C k33 w A l.length l) (hb : Below w.heap.size w W) (j : Nat) (hj : j < l.length) : ∃ ad A5 c5 A6 c6, A = some ad ∧ W.cell? (ad.add (j * 7)) = some (.int .i64 l[j].f0) ∧ W.cell? ⟨(ad.add (j * 7)).block, (ad.add (j * 7)).off + 1, none⟩ = some (.string l[j].f1) ∧ W.cell? ⟨(ad.add (j * 7)).block, (ad.add (j * 7)).off + 2, none⟩ = some (.int .i64 l[j].f2) ∧ W.cell? ⟨(ad.add (j * 7)).block, (ad.add (j * 7)).off + 3, none⟩ = some (.bool l[j].f3) ∧ W.cell? ⟨(ad.add (j * 7)).block, (ad.add (j * 7)).off + 4, none⟩ = some (.int .i64 l[j].f4.f0) ∧ W.cell? ⟨(ad.add (j * 7)).block, (ad.add (j * 7)).off + 5, none⟩ = some (.slice A5 l[j].f4.f1.length c5) ∧ W.cell? ⟨(ad.add (j * 7)).block, (ad.add (j * 7)).off + 6, none⟩ = some (.slice A6 l[j].f4.f2.length c6) ∧ l[j].f4.f1.length ≤ c5 ∧ Kd.string.C W A5 l[j].f4.f1.length l[j].f4.f1 ∧ l[j].f4.f2.length ≤ c6 ∧ Kd.string.C W A6 l[j].f4.f2.length l[j].f4.f2 := by
  have h := at_T33 (Kd.C_below h hb) (j : Int) (by omega) (by omega)
  have e : rd_T33 l (j : Int) = l[j] := by
    show l.getD (Int.toNat (j : Int)) z33 = l[j]
    rw [Int.toNat_natCast, List.getD_eq_getElem?_getD, List.getElem?_eq_getElem hj]
    rfl
  rw [e, Int.toNat_natCast] at h
  exact h

set_option maxHeartbeats 8000000 in
set_option maxRecDepth 100000 in
theorem count_yes (w : World) (ch : Int) (A1 : Option Addr) (n1 c1 : Nat) (q num den : Int) (bill : ByteArray) (A2 : Option Addr) (c2 : Nat) (l : List Vo.V) (ok : Vo.V → Bool) (hr : Kd.C k33 w A2 l.length l) (hl : l.length ≤ 1000000)
    (hP : ∀ W : World, Below w.heap.size w W → Calls Tryd.prog 27 #[.agg #[.int .i64 ch, .slice A1 n1 c1, .int .i64 q, .int .i64 num, .int .i64 den]] W fun e w' => e = .returned (.bool true) ∧ Below W.heap.size W w')
    (hV : ∀ (i : Nat) (hi : i < l.length) (W : World), Below w.heap.size w W → ∀ tb mb A5 c5 A6 c6, TellerAt W tb ch A1 n1 c1 q num den bill mb → l[i].f4.f1.length ≤ c5 → Kd.string.C W A5 l[i].f4.f1.length l[i].f4.f1 → l[i].f4.f2.length ≤ c6 → Kd.string.C W A6 l[i].f4.f2.length l[i].f4.f2 →
      Calls Tryd.prog 53 #[.pointer (some ⟨tb, 0, none⟩), .agg #[.int .i64 l[i].f0, .string l[i].f1, .int .i64 l[i].f2, .bool l[i].f3, .int .i64 l[i].f4.f0, .slice A5 l[i].f4.f1.length c5, .slice A6 l[i].f4.f2.length c6]] W fun e w' => e = .returned (.bool (ok l[i])) ∧ Below W.heap.size W w') :
    Calls Tryd.prog 12 #[.agg #[.int .i64 ch, .slice A1 n1 c1, .int .i64 q, .int .i64 num, .int .i64 den], .string bill, .slice A2 l.length c2] w fun e w' => ∃ v, e = .returned (.tuple #[.int .i64 (Vo.cnt ok l l.length).yes, .int .i64 (Vo.cnt ok l l.length).no, v]) ∧ Kd.R (Kd.int .i64) 3 w' w.heap.size (fun _ => True) v (Vo.cnt ok l l.length).bad ∧ Below w.heap.size w w' := by
  have HP := Lib.hid hP
  have HV := Lib.hid hV
  have HR := Lib.hid hr
  clear hP hV hr
  have hmm := @run_makeMap Tryd.prog
  go_enter Tryd.func12, Tryd.ntmps12
  go_wp2_with fail
  have HS : LoS w ch A1 n1 c1 q num den bill ⟨[], 0, 0, []⟩ (.slice none 0 0) (((w.alloc (.cells #[.int .i64 ch, .slice A1 n1 c1, .int .i64 q, .int .i64 num, .int .i64 den] 24)).alloc (.map #[] 0)).alloc (.cells #[.int .i64 ch, .slice A1 n1 c1, .int .i64 q, .int .i64 num, .int .i64 den, .string bill, .map (some (w.heap.size + 1))] 64)) := by
    refine ⟨upB (Below.refl _ _), ?_, ?_, Kd.R_nil _ _ _ _ _⟩
    · have := blk_new ((w.alloc (.cells #[.int .i64 ch, .slice A1 n1 c1, .int .i64 q, .int .i64 num, .int .i64 den] 24)).alloc (.map #[] 0)) (.cells #[.int .i64 ch, .slice A1 n1 c1, .int .i64 q, .int .i64 num, .int .i64 den, .string bill, .map (some (w.heap.size + 1))] 64)
      simpa [TellerAt] using this
    · have := vmap_new (w.alloc (.cells #[.int .i64 ch, .slice A1 n1 c1, .int .i64 q, .int .i64 num, .int .i64 den] 24))
      exact vmap_below (by simpa using this) (upOf inferInstance)
  refine (HP.out _ (upB (Below.refl _ _))).mono ?_
  rintro e w1 ⟨rfl, hb⟩
  replace HS := HS.step hb
  clear hb
  go_wp2_with fail
  go_loopw [6, 7, 8, 25] (fun y n v i wr => ∃ j : Nat, j ≤ l.length ∧ i = .int .i64 (j : Int) ∧ y = .int .i64 (Vo.cnt ok l j).yes ∧ n = .int .i64 (Vo.cnt ok l j).no ∧ Hid (LoS w ch A1 n1 c1 q num den bill (Vo.cnt ok l j) v wr)) (fun _ _ _ i _ => l.length - (intOf i).toNat)
  case atStart => exact ⟨0, Nat.zero_le _, rfl, rfl, rfl, Lib.hid HS⟩
  case round =>
    obtain ⟨j, hj, rfl, rfl, rfl, HL⟩ := hrel
    by_cases hlt : j < l.length
    · obtain ⟨ad, A5, c5, A6, c6, rfl, e0, e1, e2, e3, e4, e5, e6, g5, h5, g6, h6⟩ := one_at HR.out HL.out.below j hlt
      have hcs := Vo.cnt_succ (ok := ok) l j hlt
      have hinv := Vo.cnt_inv (ok := ok) l j hj
      have HLA : LoS w ch A1 n1 c1 q num den bill (Vo.cnt ok l j) u8 (wr.alloc (.cells #[.int .i64 l[j].f0, .string l[j].f1, .int .i64 l[j].f2, .bool l[j].f3, .int .i64 l[j].f4.f0, .slice A5 l[j].f4.f1.length c5, .slice A6 l[j].f4.f2.length c6] 33)) := HL.out.step (upB (Below.refl _ _))
      have hbx := blk_new wr (.cells #[.int .i64 l[j].f0, .string l[j].f1, .int .i64 l[j].f2, .bool l[j].f3, .int .i64 l[j].f4.f0, .slice A5 l[j].f4.f1.length c5, .slice A6 l[j].f4.f2.length c6] 33)
      have HVA := fun (W : World) (hb : Below (wr.alloc (.cells #[.int .i64 l[j].f0, .string l[j].f1, .int .i64 l[j].f2, .bool l[j].f3, .int .i64 l[j].f4.f0, .slice A5 l[j].f4.f1.length c5, .slice A6 l[j].f4.f2.length c6] 33)).heap.size (wr.alloc (.cells #[.int .i64 l[j].f0, .string l[j].f1, .int .i64 l[j].f2, .bool l[j].f3, .int .i64 l[j].f4.f0, .slice A5 l[j].f4.f1.length c5, .slice A6 l[j].f4.f2.length c6] 33)) W) =>
        HV.out j hlt W (below_step HLA.below hb) (w.heap.size + 1 + 1) (w.heap.size + 1) A5 c5 A6 c6 (HLA.step hb).t g5 (Kd.C_below h5 (below_step (upB (Below.refl _ _)) hb)) g6 (Kd.C_below h6 (below_step (upB (Below.refl _ _)) hb))
      have hmlt : w.heap.size + 1 < wr.heap.size := vmap_lt HL.out.m
      have HMLT := Lib.hid hmlt
      have HVA2 := Lib.hid HVA
      have HLA2 := Lib.hid HLA
      have HBX := Lib.hid hbx
      have HCS := Lib.hid hcs
      have HINV := Lib.hid hinv
      clear hcs hinv HLA hbx HVA h5 h6 g5 g6 hmlt
      cases hc : Vo.counts ok (Vo.cnt ok l j) l[j] with
      | false =>
        have hstep : Vo.cnt ok l (j + 1) = ⟨(Vo.cnt ok l j).seen, (Vo.cnt ok l j).yes, (Vo.cnt ok l j).no, (Vo.cnt ok l j).bad ++ [(j : Int)]⟩ := by
          rw [HCS.out]; unfold Vo.step; rw [if_neg (by rw [hc]; decide)]
        have HST := Lib.hid hstep
        have HCT := Lib.hid (cnt_no l[j] A5 c5 A6 c6 HLA2.out hc HVA2.out)
        have hbl : (Vo.cnt ok l j).bad.length ≤ j := by
          obtain ⟨i1, i2, i3, i4⟩ := HINV.out
          omega
        have HBLN := Lib.hid hbl
        clear hc hstep HCS HINV hbl
        go_wp2_with fail
        refine HCT.out.mono ?_
        rintro e w2 ⟨rfl, hb⟩
        replace HLA2 := Lib.hid (HLA2.out.step hb)
        clear hb
        go_wp2_with (at_builtin; refine Kd.R_append (Kd.int .i64) (w0 := w) w.heap.size rfl (.tmp 37) (.tmp 39) 37 3 (.int .i64 0) 8 rfl Tryd.underlying37 infoInt rfl (by decide) (by omega) u8 (Vo.cnt ok l j).bad (j : Int) [.int .i64 (j : Int)] (fun k => k ≠ w.heap.size + 1 ∧ k ≠ w.heap.size + 1 + 1) (fun _ => False) rfl rfl rfl (fun _ hk => hk.elim) ?aF HLA2.out.row HLA2.out.below HLA2.out.below.size ?aL ?_; (case aF => exact fun k hk => ⟨by have := vmap_lt HLA2.out.m; omega, by have := blk_lt HLA2.out.t; omega⟩); (case aL => have := HBLN.out; omega); intro v1 w9 ho hb hg hat)
        have HL3 := Lib.hid (LoS.found (s2 := Vo.cnt ok l (j + 1)) HLA2.out (by rw [HST.out]; exact ho) hb hg (by rw [HST.out]))
        have hy : (Vo.cnt ok l j).yes = (Vo.cnt ok l (j + 1)).yes := by rw [HST.out]
        have hn : (Vo.cnt ok l j).no = (Vo.cnt ok l (j + 1)).no := by rw [HST.out]
        clear ho hb hg hat
        go_wp2
        go_roundw
        case rel => exact ⟨j + 1, by omega, by simp, by rw [hy], by rw [hn], HL3⟩
        case measure => simp [intOf]; omega
      | true =>
        have hstep : Vo.cnt ok l (j + 1) = (if l[j].f3 = true then ⟨l[j].f0 :: (Vo.cnt ok l j).seen, (Vo.cnt ok l j).yes + 1, (Vo.cnt ok l j).no, (Vo.cnt ok l j).bad⟩ else ⟨l[j].f0 :: (Vo.cnt ok l j).seen, (Vo.cnt ok l j).yes, (Vo.cnt ok l j).no + 1, (Vo.cnt ok l j).bad⟩ : Vo.Cn) := by
          rw [HCS.out]; unfold Vo.step; rw [if_pos hc]
        have HCT := Lib.hid (cnt_ok l[j] A5 c5 A6 c6 HLA2.out hc HVA2.out)
        have hsn : (Vo.cnt ok l (j + 1)).seen = l[j].f0 :: (Vo.cnt ok l j).seen := by rw [hstep]; split <;> rfl
        have hbd : (Vo.cnt ok l (j + 1)).bad = (Vo.cnt ok l j).bad := by rw [hstep]; split <;> rfl
        have HSN := Lib.hid hsn
        have HBD := Lib.hid hbd
        have hyn : 0 ≤ (Vo.cnt ok l j).yes ∧ (Vo.cnt ok l j).yes ≤ 1000000 ∧ 0 ≤ (Vo.cnt ok l j).no ∧ (Vo.cnt ok l j).no ≤ 1000000 := by
          obtain ⟨i1, i2, i3, i4⟩ := HINV.out
          omega
        obtain ⟨y0, y1, y2, y3⟩ := hyn
        clear hc hsn hbd HCS HINV
        cases hf : l[j].f3 with
        | true =>
          rw [if_pos hf] at hstep
          have HST := Lib.hid hstep
          have HF := Lib.hid hf
          clear hstep hf
          go_wp2_with fail
          refine HCT.out.mono ?_
          rintro e w2 ⟨rfl, hg, hm⟩
          have HL3 := Lib.hid (LoS.noted (s2 := Vo.cnt ok l (j + 1)) HLA2.out hg (by rw [HSN.out]; exact hm) HBD.out)
          have hbx2 := blk_grown HBX.out hg (by have := HMLT.out; intro e; injection e with e; omega)
          have hy3 : w2.cell? ⟨wr.heap.size, 3, none⟩ = some (.bool true) := by rw [← HF.out]; exact (blk_cell hbx2 3).trans rfl
          have hy : (Vo.cnt ok l j).yes + 1 = (Vo.cnt ok l (j + 1)).yes := by rw [HST.out]
          have hn : (Vo.cnt ok l j).no = (Vo.cnt ok l (j + 1)).no := by rw [HST.out]
          have HY := Lib.hid hy
          have HN := Lib.hid hn
          clear hg hm hbx2 hy hn
          go_wp2
          go_roundw
          case rel => exact ⟨j + 1, by omega, by simp, by rw [HY.out], by rw [HN.out], HL3⟩
          case measure => simp [intOf]; omega
        | false =>
          rw [if_neg (by rw [hf]; decide)] at hstep
          have HST := Lib.hid hstep
          have HF := Lib.hid hf
          clear hstep hf
          go_wp2_with fail
          refine HCT.out.mono ?_
          rintro e w2 ⟨rfl, hg, hm⟩
          have HL3 := Lib.hid (LoS.noted (s2 := Vo.cnt ok l (j + 1)) HLA2.out hg (by rw [HSN.out]; exact hm) HBD.out)
          have hbx2 := blk_grown HBX.out hg (by have := HMLT.out; intro e; injection e with e; omega)
          have hy3 : w2.cell? ⟨wr.heap.size, 3, none⟩ = some (.bool false) := by rw [← HF.out]; exact (blk_cell hbx2 3).trans rfl
          have hy : (Vo.cnt ok l j).yes = (Vo.cnt ok l (j + 1)).yes := by rw [HST.out]
          have hn : (Vo.cnt ok l j).no + 1 = (Vo.cnt ok l (j + 1)).no := by rw [HST.out]
          have HY := Lib.hid hy
          have HN := Lib.hid hn
          clear hg hm hbx2 hy hn
          go_wp2
          go_roundw
          case rel => exact ⟨j + 1, by omega, by simp, by rw [HY.out], by rw [HN.out], HL3⟩
          case measure => simp [intOf]; omega
    · obtain rfl : j = l.length := by omega
      clear hlt hj
      go_wp2
      go_ret3
      exact ⟨_, rfl, Kd.R_mono HL.out.row (fun _ _ => trivial), HL.out.below⟩

set_option maxHeartbeats 1000000 in
theorem no1_any (w : World) (m : Int) (b : ByteArray) (c : Int) (y : Bool) (x : Int) (A5 : Option Addr) (n5 c5 : Nat) (A6 : Option Addr) (n6 c6 : Nat) :
    Calls Tryd.prog 29 #[.agg #[.int .i64 m, .string b, .int .i64 c, .bool y, .int .i64 x, .slice A5 n5 c5, .slice A6 n6 c6]] w fun e w' => e = .returned (.bool false) ∧ Below w.heap.size w w' := by
  go_enter Tryd.func29, Tryd.ntmps29
  go_wp2
  go_ret
  exact ⟨rfl, upB (Below.refl _ _)⟩

set_option maxHeartbeats 8000000 in
set_option maxRecDepth 100000 in
theorem count_no (w : World) (ch : Int) (A1 : Option Addr) (n1 c1 : Nat) (q num den : Int) (bill : ByteArray) (A2 : Option Addr) (c2 : Nat) (l : List Vo.V) (hr : Kd.C k33 w A2 l.length l) (hl : l.length ≤ 1000000)
    (hP : ∀ W : World, Below w.heap.size w W → Calls Tryd.prog 27 #[.agg #[.int .i64 ch, .slice A1 n1 c1, .int .i64 q, .int .i64 num, .int .i64 den]] W fun e w' => e = .returned (.bool false) ∧ Below W.heap.size W w') :
    Calls Tryd.prog 12 #[.agg #[.int .i64 ch, .slice A1 n1 c1, .int .i64 q, .int .i64 num, .int .i64 den], .string bill, .slice A2 l.length c2] w fun e w' => ∃ v, e = .returned (.tuple #[.int .i64 (Vo.cnt (fun _ => false) l l.length).yes, .int .i64 (Vo.cnt (fun _ => false) l l.length).no, v]) ∧ Kd.R (Kd.int .i64) 3 w' w.heap.size (fun _ => True) v (Vo.cnt (fun _ => false) l l.length).bad ∧ Below w.heap.size w w' := by
  have HP := Lib.hid hP
  have HR := Lib.hid hr
  clear hP hr
  have hmm := @run_makeMap Tryd.prog
  go_enter Tryd.func12, Tryd.ntmps12
  go_wp2_with fail
  have HS : LoS w ch A1 n1 c1 q num den bill ⟨[], 0, 0, []⟩ (.slice none 0 0) (((w.alloc (.cells #[.int .i64 ch, .slice A1 n1 c1, .int .i64 q, .int .i64 num, .int .i64 den] 24)).alloc (.map #[] 0)).alloc (.cells #[.int .i64 ch, .slice A1 n1 c1, .int .i64 q, .int .i64 num, .int .i64 den, .string bill, .map (some (w.heap.size + 1))] 64)) := by
    refine ⟨upB (Below.refl _ _), ?_, ?_, Kd.R_nil _ _ _ _ _⟩
    · have := blk_new ((w.alloc (.cells #[.int .i64 ch, .slice A1 n1 c1, .int .i64 q, .int .i64 num, .int .i64 den] 24)).alloc (.map #[] 0)) (.cells #[.int .i64 ch, .slice A1 n1 c1, .int .i64 q, .int .i64 num, .int .i64 den, .string bill, .map (some (w.heap.size + 1))] 64)
      simpa [TellerAt] using this
    · have := vmap_new (w.alloc (.cells #[.int .i64 ch, .slice A1 n1 c1, .int .i64 q, .int .i64 num, .int .i64 den] 24))
      exact vmap_below (by simpa using this) (upOf inferInstance)
  refine (HP.out _ (upB (Below.refl _ _))).mono ?_
  rintro e w1 ⟨rfl, hb⟩
  replace HS := HS.step hb
  clear hb
  go_wp2_with fail
  go_loopw [6, 7, 8, 25] (fun y n v i wr => ∃ j : Nat, j ≤ l.length ∧ i = .int .i64 (j : Int) ∧ y = .int .i64 (Vo.cnt (fun _ => false) l j).yes ∧ n = .int .i64 (Vo.cnt (fun _ => false) l j).no ∧ Hid (LoS w ch A1 n1 c1 q num den bill (Vo.cnt (fun _ => false) l j) v wr)) (fun _ _ _ i _ => l.length - (intOf i).toNat)
  case atStart => exact ⟨0, Nat.zero_le _, rfl, rfl, rfl, Lib.hid HS⟩
  case round =>
    obtain ⟨j, hj, rfl, rfl, rfl, HL⟩ := hrel
    by_cases hlt : j < l.length
    · obtain ⟨ad, A5, c5, A6, c6, rfl, e0, e1, e2, e3, e4, e5, e6, g5, h5, g6, h6⟩ := one_at HR.out HL.out.below j hlt
      have hcs := Vo.cnt_succ (ok := fun _ => false) l j hlt
      have hinv := Vo.cnt_inv (ok := fun _ => false) l j hj
      have HLA : LoS w ch A1 n1 c1 q num den bill (Vo.cnt (fun _ => false) l j) u8 (wr.alloc (.cells #[.int .i64 l[j].f0, .string l[j].f1, .int .i64 l[j].f2, .bool l[j].f3, .int .i64 l[j].f4.f0, .slice A5 l[j].f4.f1.length c5, .slice A6 l[j].f4.f2.length c6] 33)) := HL.out.step (upB (Below.refl _ _))
      have hbx := blk_new wr (.cells #[.int .i64 l[j].f0, .string l[j].f1, .int .i64 l[j].f2, .bool l[j].f3, .int .i64 l[j].f4.f0, .slice A5 l[j].f4.f1.length c5, .slice A6 l[j].f4.f2.length c6] 33)
      have hmlt : w.heap.size + 1 < wr.heap.size := vmap_lt HL.out.m
      have HMLT := Lib.hid hmlt
      have HLA2 := Lib.hid HLA
      have HBX := Lib.hid hbx
      have HCS := Lib.hid hcs
      have HINV := Lib.hid hinv
      clear hcs hinv HLA hbx h5 h6 g5 g6 hmlt
      have hc : Vo.counts (fun _ => false) (Vo.cnt (fun _ => false) l j) l[j] = false := by unfold Vo.counts; simp
      · skip
        have hstep : Vo.cnt (fun _ => false) l (j + 1) = ⟨(Vo.cnt (fun _ => false) l j).seen, (Vo.cnt (fun _ => false) l j).yes, (Vo.cnt (fun _ => false) l j).no, (Vo.cnt (fun _ => false) l j).bad ++ [(j : Int)]⟩ := by
          rw [HCS.out]; unfold Vo.step; rw [if_neg (by rw [hc]; decide)]
        have HST := Lib.hid hstep
        have HCT := fun (W : World) => no1_any W l[j].f0 l[j].f1 l[j].f2 l[j].f3 l[j].f4.f0 A5 l[j].f4.f1.length c5 A6 l[j].f4.f2.length c6
        replace HCT := Lib.hid HCT
        have hbl : (Vo.cnt (fun _ => false) l j).bad.length ≤ j := by
          obtain ⟨i1, i2, i3, i4⟩ := HINV.out
          omega
        have HBLN := Lib.hid hbl
        clear hc hstep HCS HINV hbl
        go_wp2_with fail
        refine (HCT.out _).mono ?_
        rintro e w2 ⟨rfl, hb⟩
        replace HLA2 := Lib.hid (HLA2.out.step hb)
        clear hb
        go_wp2_with (at_builtin; refine Kd.R_append (Kd.int .i64) (w0 := w) w.heap.size rfl (.tmp 37) (.tmp 39) 37 3 (.int .i64 0) 8 rfl Tryd.underlying37 infoInt rfl (by decide) (by omega) u8 (Vo.cnt (fun _ => false) l j).bad (j : Int) [.int .i64 (j : Int)] (fun k => k ≠ w.heap.size + 1 ∧ k ≠ w.heap.size + 1 + 1) (fun _ => False) rfl rfl rfl (fun _ hk => hk.elim) ?aF HLA2.out.row HLA2.out.below HLA2.out.below.size ?aL ?_; (case aF => exact fun k hk => ⟨by have := vmap_lt HLA2.out.m; omega, by have := blk_lt HLA2.out.t; omega⟩); (case aL => have := HBLN.out; omega); intro v1 w9 ho hb hg hat)
        have HL3 := Lib.hid (LoS.found (s2 := Vo.cnt (fun _ => false) l (j + 1)) HLA2.out (by rw [HST.out]; exact ho) hb hg (by rw [HST.out]))
        have hy : (Vo.cnt (fun _ => false) l j).yes = (Vo.cnt (fun _ => false) l (j + 1)).yes := by rw [HST.out]
        have hn : (Vo.cnt (fun _ => false) l j).no = (Vo.cnt (fun _ => false) l (j + 1)).no := by rw [HST.out]
        clear ho hb hg hat
        go_wp2
        go_roundw
        case rel => exact ⟨j + 1, by omega, by simp, by rw [hy], by rw [hn], HL3⟩
        case measure => simp [intOf]; omega
    · obtain rfl : j = l.length := by omega
      clear hlt hj
      go_wp2
      go_ret3
      exact ⟨_, rfl, Kd.R_mono HL.out.row (fun _ _ => trivial), HL.out.below⟩
end Go.Proofs.YtoimnllcniefoaaDoor.P
/- vote.proper: its closure, and when a roll is proper. -/
namespace Go.Proofs.YtoimnllcniefoaaDoor.P
open Go.RowKit Go.Proofs.YtoimnllcniefoaaDoor Go.Proofs.YtoimnllcniefoaaDoorW.PrintWords Go.Proofs.YtoimnllcniefoaaDoorW.PrintLast Go.Proofs.YtoimnllcniefoaaDoorW.PrintMore
set_option linter.unusedVariables false
set_option linter.unusedSimpArgs false

set_option maxHeartbeats 1000000 in
theorem vp1_any (s : ByteArray) (w : World) :
    Calls Tryd.prog 52 #[.string s] w fun e w' => e = .returned (.bool (!Dg.isD s)) ∧ Below w.heap.size w w' := by
  have h := digest_Is.calls s (Dg.isD s) w rfl
  have HC := Lib.hid h
  clear h
  generalize Dg.isD s = b at HC ⊢
  go_enter Tryd.func52, Tryd.ntmps52
  go_wp2_with fail
  refine (HC.out).mono ?_
  rintro e w' ⟨rfl, hb⟩
  go_wp2
  go_ret
  exact ⟨rfl, hb⟩

set_option maxHeartbeats 2000000 in
theorem vpIndex_any (A0 : Option Addr) (c0 : Nat) (l : List ByteArray) (w : World) (hr : Kd.C Kd.string w A0 l.length l) :
    Calls Tryd.prog 62 #[.slice A0 l.length c0, .func (.func 52) #[] #[]] w fun e w' => IdxPost l w e w' := by
  have hl : l.length ≤ 9223372036854775807 := hr.2.1
  have HR := Lib.hid hr
  clear hr
  go_enter Tryd.func62, Tryd.ntmps62
  go_wp2
  go_loopw [8] (fun i wq => ∃ k : Nat, k ≤ l.length ∧ i = .int .i64 k ∧ Hid (Tr.proper (l.take k) = true) ∧ Hid (Below w.heap.size w wq)) (fun i _ => l.length - (intOf i).toNat)
  case atStart => exact ⟨0, Nat.zero_le _, rfl, Lib.hid (by simp [Tr.proper]), Lib.hid (Below.refl _ _)⟩
  case round =>
    obtain ⟨k, hk, rfl, HP, HB⟩ := hrel
    by_cases hlt : k < l.length
    · obtain ⟨ad, rfl, hc⟩ := at_str (Kd.C_below HR.out HB.out) k hlt hlt
      have hstep : Tr.proper (l.take (k + 1)) = Dg.isD l[k] := by
        have h := HP.out
        unfold Tr.proper at h ⊢
        rw [List.take_succ_eq_append_getElem hlt, List.all_append, h]
        simp
      have hall : Dg.isD l[k] = false → Tr.proper l = false := by
        intro h
        rw [← hstep] at h
        cases hp : Tr.proper l with
        | false => rfl
        | true =>
          unfold Tr.proper at hp h
          rw [List.all_eq_true] at hp
          have : (l.take (k + 1)).all Dg.isD = true := List.all_eq_true.2 fun x hx => hp x (List.mem_of_mem_take hx)
          rw [this] at h; cases h
      have HS := Lib.hid hstep
      have HALL := Lib.hid hall
      clear hstep hall
      have hcall := vp1_any l[k]
      generalize l[k] = s at hc HS HALL hcall
      generalize hb0 : Dg.isD s = b at HS HALL hcall
      have HC := Lib.hid hcall
      clear hcall hb0
      go_wp2_with fail
      refine (HC.out _).mono ?_
      rintro e w1 ⟨rfl, hb⟩
      have HB1 := Lib.hid (HB.out.trans (hb.mono HB.out.size))
      clear hb hc
      cases b with
      | true =>
        go_wp2
        go_roundw
        case rel => exact ⟨k + 1, by omega, by simp, HS, HB1⟩
        case measure => simp [intOf]; omega
      | false =>
        have hpf := HALL.out rfl
        have HPF := Lib.hid hpf
        clear hpf HALL
        go_wp2
        go_ret
        exact ⟨k, by rw [HPF.out]; simp, rfl, HB1.out⟩
    · obtain rfl : k = l.length := by omega
      have hall : Tr.proper l = true := by
        have := HP.out
        rwa [List.take_length] at this
      have HALL := Lib.hid hall
      clear hall hlt hk
      go_wp2
      go_ret
      exact ⟨-1, by rw [HALL.out]; decide, rfl, HB.out⟩

set_option maxHeartbeats 1000000 in
theorem vpContains_any (A0 : Option Addr) (c0 : Nat) (l : List ByteArray) (w : World) (hr : Kd.C Kd.string w A0 l.length l) :
    Calls Tryd.prog 39 #[.slice A0 l.length c0, .func (.func 52) #[] #[]] w fun e w' => e = .returned (.bool (!Tr.proper l)) ∧ Below w.heap.size w w' := by
  have HC := Lib.hid (vpIndex_any A0 c0 l w hr)
  clear hr
  go_enter Tryd.func39, Tryd.ntmps39
  go_wp2_with fail
  refine (HC.out).mono ?_
  rintro e w' ⟨n, hn, rfl, hb⟩
  have HN := Lib.hid hn
  clear hn
  go_wp2
  go_ret
  refine ⟨?_, hb⟩
  rw [← HN.out]
  rfl

end Go.Proofs.YtoimnllcniefoaaDoor.P
namespace Go.Proofs.YtoimnllcniefoaaDoor.Vo
def ratio (num den : Int) : Bool := decide (0 ≤ num) && decide (num < den) && decide (den ≤ 60)
def proper (ch : Int) (keys : List ByteArray) (q num den : Int) : Bool :=
  (decide (ch = 1) || decide (ch = 2)) && decide (1 ≤ (keys.length : Int)) && decide ((keys.length : Int) ≤ 60) && decide (1 ≤ q) && decide (q ≤ (keys.length : Int)) && ratio num den && Tr.proper keys
end Go.Proofs.YtoimnllcniefoaaDoor.Vo
namespace Go.Proofs.YtoimnllcniefoaaDoor.P
open Go.RowKit Go.Proofs.YtoimnllcniefoaaDoor Go.Proofs.YtoimnllcniefoaaDoorW.PrintWords Go.Proofs.YtoimnllcniefoaaDoorW.PrintLast Go.Proofs.YtoimnllcniefoaaDoorW.PrintMore
def vote_proper.f (a0 : Int) (l1 : List ByteArray) (a2 a3 a4 : Int) : Option Bool := some (Vo.proper a0 l1 a2 a3 a4)

set_option maxHeartbeats 4000000 in
theorem vote_proper.calls (a0 : Int) (A1 : Option Addr) (c1 : Nat) (l1 : List ByteArray) (a2 a3 a4 : Int) (r : Bool) (w : World) (hr : Kd.C Kd.string w A1 l1.length l1) (hc : l1.length ≤ c1) (h : vote_proper.f a0 l1 a2 a3 a4 = some r) :
    Calls Tryd.prog 27 #[.agg #[.int .i64 a0, .slice A1 l1.length c1, .int .i64 a2, .int .i64 a3, .int .i64 a4]] w fun e w' => e = .returned (.bool r) ∧ Below w.heap.size w w' := by
  obtain rfl := Option.some.inj h
  have hl : l1.length ≤ 9223372036854775807 := hr.2.1
  have HC := fun W (hb : Below w.heap.size w W) => vpContains_any A1 c1 l1 W (Kd.C_below hr hb)
  replace HC := Lib.hid HC
  clear hr h hc
  generalize hp : Tr.proper l1 = p at HC
  have HP := Lib.hid hp
  clear hp
  go_enter Tryd.func27, Tryd.ntmps27
  go_wp2_with fail
  all_goals first
    | (refine (HC.out _ (upB (Below.refl _ _))).mono ?_
       rintro e w' ⟨rfl, hb⟩
       have HB := Lib.hid (below_step (upB (Below.refl w.heap.size w)) hb)
       clear hb
       go_wp2
       go_ret
       refine ⟨congrArg (fun b => Ending.returned (Value.bool b)) ?_, HB.out⟩
       rw [Bool.eq_iff_iff]
       unfold Vo.proper Vo.ratio
       rw [HP.out]
       simp only [Bool.not_not, Bool.and_eq_true, Bool.or_eq_true, decide_eq_true_eq]
       exact ⟨fun h => ⟨by omega, h⟩, fun h => h.2⟩)
    | (go_ret
       refine ⟨congrArg (fun b => Ending.returned (Value.bool b)) ?_, upB (Below.refl _ _)⟩
       symm
       rw [Bool.eq_false_iff]
       intro h
       unfold Vo.proper Vo.ratio at h
       simp only [Bool.and_eq_true, Bool.or_eq_true, decide_eq_true_eq] at h
       omega)
end Go.Proofs.YtoimnllcniefoaaDoor.P
/- (*vote.teller).valid and vote.Count as given contracts: which votes are valid, and what is counted. -/
namespace Go.Proofs.YtoimnllcniefoaaDoor.P
open Go.RowKit Go.Proofs.YtoimnllcniefoaaDoor Go.Proofs.YtoimnllcniefoaaDoorW.PrintWords Go.Proofs.YtoimnllcniefoaaDoorW.PrintLast Go.Proofs.YtoimnllcniefoaaDoorW.PrintMore
set_option linter.unusedVariables false
set_option linter.unusedSimpArgs false

def valF (k : Nat) (ch : Int) (keys : List ByteArray) (bill : ByteArray) (v : Vo.V) : Option Bool :=
  if v.f2 ≠ ch ∨ v.f1 ≠ bill ∨ v.f0 < 0 ∨ (keys.length : Int) ≤ v.f0 then some false
  else (vote_Message.f v.f0 v.f1 v.f2 v.f3 v.f4.f0 v.f4.f1 v.f4.f2).bind fun m => seal_Verify.f k (rdOf ByteArray.empty keys v.f0) m v.f4.f0 v.f4.f1 v.f4.f2

theorem valid_any (k : Nat) (ch : Int) (A1 : Option Addr) (c1 : Nat) (l1 : List ByteArray) (q num den : Int) (bill : ByteArray) (mb tb : Nat) (v : Vo.V) (A5 : Option Addr) (c5 : Nat) (A6 : Option Addr) (c6 : Nat) (r : Bool) (w : World)
    (ht : TellerAt w tb ch A1 l1.length c1 q num den bill mb) (hr1 : Kd.C Kd.string w A1 l1.length l1) (g5 : v.f4.f1.length ≤ c5) (h5 : Kd.string.C w A5 v.f4.f1.length v.f4.f1) (g6 : v.f4.f2.length ≤ c6) (h6 : Kd.string.C w A6 v.f4.f2.length v.f4.f2) (hT : Tabs w) (h : valF k ch l1 bill v = some r) :
    Calls Tryd.prog 53 #[.pointer (some ⟨tb, 0, none⟩), .agg #[.int .i64 v.f0, .string v.f1, .int .i64 v.f2, .bool v.f3, .int .i64 v.f4.f0, .slice A5 v.f4.f1.length c5, .slice A6 v.f4.f2.length c6]] w fun e w' => e = .returned (.bool r) ∧ Below w.heap.size w w' := by
  have hn : l1.length ≤ 9223372036854775807 := hr1.2.1
  unfold valF at h
  split at h
  · rename_i hb
    cases h
    by_cases h1 : v.f2 = ch
    · by_cases h2 : v.f1 = bill
      · by_cases h3 : v.f0 < 0
        · exact valid_no3 w tb ch A1 _ c1 q num den bill mb _ _ _ _ _ _ _ _ _ _ _ hn ht h1 h2 h3
        · refine valid_no4 w tb ch A1 _ c1 q num den bill mb _ _ _ _ _ _ _ _ _ _ _ hn ht h1 h2 (by omega) ?_
          rcases hb with e | e | e | e
          · exact absurd h1 e
          · exact absurd h2 e
          · exact absurd e h3
          · exact e
      · exact valid_no2 w tb ch A1 _ c1 q num den bill mb _ _ _ _ _ _ _ _ _ _ _ hn ht h1 h2
    · exact valid_no1 w tb ch A1 _ c1 q num den bill mb _ _ _ _ _ _ _ _ _ _ _ hn ht h1
  · rename_i hb
    have h1 : v.f2 = ch := Classical.byContradiction fun e => hb (.inl e)
    have h2 : v.f1 = bill := Classical.byContradiction fun e => hb (.inr (.inl e))
    have h3 : 0 ≤ v.f0 := Classical.byContradiction fun e => hb (.inr (.inr (.inl (by omega))))
    have h4 : v.f0 < (l1.length : Int) := Classical.byContradiction fun e => hb (.inr (.inr (.inr (by omega))))
    obtain ⟨m, hm, hv⟩ := Option.bind_eq_some_iff.1 h
    obtain ⟨ad, rfl, hk⟩ := Kd.at_string hr1 v.f0 h3 h4
    exact valid_yes w tb ch ad _ c1 q num den bill mb _ _ _ _ _ _ _ _ _ _ _ hn ht _ m r h1 h2 h3 h4 hk
      (fun W hb => vote_Message.calls _ _ _ _ _ _ _ _ _ _ _ m W (Kd.C_below h5 hb) g5 (Kd.C_below h6 hb) g6 (tabs_below hT hb) hm)
      (fun W hb => seal_Verify.calls k _ m _ _ _ _ _ _ _ r W (Kd.C_below h5 hb) g5 (Kd.C_below h6 hb) g6 (tabs_below hT hb) hv)

def okF (k : Nat) (ch : Int) (keys : List ByteArray) (bill : ByteArray) (v : Vo.V) : Bool := (valF k ch keys bill v).getD false
def vote_Count.f (k : Nat) (a0 : Int) (l1 : List ByteArray) (a2 a3 a4 : Int) (a5 : ByteArray) (l6 : List Vo.V) : Option (Int × Int × List Int) :=
  if l6.length ≤ 1000000 then
    if Vo.proper a0 l1 a2 a3 a4 = true then
      if (l6.all fun v => (valF k a0 l1 a5 v).isSome) = true then some ((Vo.cnt (okF k a0 l1 a5) l6 l6.length).yes, (Vo.cnt (okF k a0 l1 a5) l6 l6.length).no, (Vo.cnt (okF k a0 l1 a5) l6 l6.length).bad) else none
    else some ((Vo.cnt (fun _ => false) l6 l6.length).yes, (Vo.cnt (fun _ => false) l6 l6.length).no, (Vo.cnt (fun _ => false) l6 l6.length).bad)
  else none
theorem vote_Count.calls (k : Nat) (a0 : Int) (A1 : Option Addr) (c1 : Nat) (l1 : List ByteArray) (a2 a3 a4 : Int) (a5 : ByteArray) (A6 : Option Addr) (c6 : Nat) (l6 : List Vo.V) (r1 r2 : Int) (r3 : List Int) (w : World) (hr1 : Kd.C Kd.string w A1 l1.length l1) (hc1 : l1.length ≤ c1) (hr6 : Kd.C k33 w A6 l6.length l6) (hc6 : l6.length ≤ c6) (hT : Tabs w) (h : vote_Count.f k a0 l1 a2 a3 a4 a5 l6 = some (r1, r2, r3)) :
    Calls Tryd.prog 12 #[.agg #[.int .i64 a0, .slice A1 l1.length c1, .int .i64 a2, .int .i64 a3, .int .i64 a4], .string a5, .slice A6 l6.length c6] w fun e w' => ∃ v, e = .returned (.tuple #[.int .i64 r1, .int .i64 r2, v]) ∧ Kd.R (Kd.int .i64) 3 w' w.heap.size (fun _ => True) v r3 ∧ Below w.heap.size w w' := by
  have hP := fun (W : World) (hb : Below w.heap.size w W) => vote_proper.calls a0 A1 c1 l1 a2 a3 a4 _ W (Kd.C_below hr1 hb) hc1 rfl
  unfold vote_Count.f at h
  split at h
  · rename_i hl
    split at h
    · rename_i hp
      rw [hp] at hP
      split at h
      · rename_i ha
        cases h
        refine count_yes w a0 A1 l1.length c1 a2 a3 a4 a5 A6 c6 l6 (okF k a0 l1 a5) hr6 hl hP fun i hi W hb tb mb A5 c5 A6 c6 ht g5 h5 g6 h6 => ?_
        refine valid_any k a0 A1 c1 l1 a2 a3 a4 a5 mb tb l6[i] A5 c5 A6 c6 _ W ht (Kd.C_below hr1 hb) g5 h5 g6 h6 (tabs_below hT hb) ?_
        have hi2 := List.all_eq_true.1 ha l6[i] (List.getElem_mem hi)
        obtain ⟨r, hr⟩ := Option.isSome_iff_exists.1 hi2
        unfold okF
        rw [hr]; rfl
      · cases h
    · rename_i hp
      cases h
      rw [Bool.eq_false_iff.2 hp] at hP
      exact count_no w a0 A1 l1.length c1 a2 a3 a4 a5 A6 c6 l6 hr6 hl hP
  · cases h
end Go.Proofs.YtoimnllcniefoaaDoor.P
