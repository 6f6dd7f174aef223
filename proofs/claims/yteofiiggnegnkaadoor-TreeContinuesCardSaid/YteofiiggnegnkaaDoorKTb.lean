import Derived.Test.YteofiiggnegnkaaDoorKTa
import Derived.Laws.EntriesVeiled
set_option linter.unusedVariables false
set_option linter.unusedSimpArgs false
/- tree.Extends' inner function. -/
namespace Go.Proofs.YteofiiggnegnkaaDoor.P
open Go.RowKit Go.Proofs.YteofiiggnegnkaaDoor Go.Proofs.YteofiiggnegnkaaDoorW.PrintWords Go.Proofs.YteofiiggnegnkaaDoorW.PrintLast Go.Proofs.YteofiiggnegnkaaDoorW.PrintMore
set_option linter.unusedVariables false

/-- What Extends' inner function has captured. -/
def ExEnv (w : World) (old : ByteArray) (ob vp vu pb : Nat) : Prop :=
  w.heap[ob]? = some (.cells #[.string old] 9 (0, 0)) ∧
  w.heap[vp]? = some (.cells #[.pointer (some ⟨pb, 0, none⟩)] 48 (0, 0)) ∧
  w.heap[vu]? = some (.cells #[.func (.func 45) #[] #[.pointer (some ⟨ob, 0, none⟩), .pointer (some ⟨vp, 0, none⟩), .pointer (some ⟨vu, 0, none⟩)]] 55 (0, 0))

theorem ExEnv.moved {w w' : World} {x : ByteArray} {lf vp vu pb lb B : Nat} {l : List ByteArray} {sh : Bool} (h : ExEnv w x lf vp vu pb) (hp : PS w pb lb l sh) (k : Moved B pb lb w w') : ExEnv w' x lf vp vu pb := by
  obtain ⟨h1, h2, h3⟩ := h
  obtain ⟨A, c, p1, _, _, _, p2⟩ := hp
  exact ⟨k.block h1 (blocks_ne h1 p2 (by decide)) (blocks_ne h1 p1 (by decide)), k.block h2 (blocks_ne h2 p2 (by decide)) (blocks_ne h2 p1 (by decide)), k.block h3 (blocks_ne h3 p2 (by decide)) (blocks_ne h3 p1 (by decide))⟩

theorem exBoth_size (f n m : Nat) (whole : Bool) (old : ByteArray) (l : List ByteArray) (s : Bool) (ho : old.size ≤ 16) (hl : ∀ s ∈ l, s.size ≤ 16) : (Tr.exBoth f n m whole old l s).1.1.size ≤ 16 ∧ (Tr.exBoth f n m whole old l s).1.2.size ≤ 16 := by
  induction f generalizing n m whole l s with
  | zero => exact ⟨ho, ho⟩
  | succ f ih =>
    have hd : ∀ s ∈ l.dropLast, s.size ≤ 16 := fun s hs => hl s (List.dropLast_subset l hs)
    simp only [Tr.exBoth]
    split
    · split
      · exact ⟨ho, ho⟩
      · exact ⟨last_le l hl, last_le l hl⟩
    · split
      · exact ⟨(ih _ _ _ _ _ hd).1, Nat.le_of_eq (Dg.list_size _)⟩
      · exact ⟨Nat.le_of_eq (Dg.list_size _), Nat.le_of_eq (Dg.list_size _)⟩

set_option maxHeartbeats 4000000 in
theorem both_any (old : ByteArray) (ho : old.size ≤ 16) (ob vp vu pb lb B : Nat) (hB1 : B ≤ pb) (hB2 : B ≤ lb) (f : Nat) : ∀ (n m : Nat) (whole : Bool) (l : List ByteArray) (sh : Bool) (w : World), n ≤ f → 1 ≤ m → m ≤ n → n ≤ 1000000 → (∀ s ∈ l, s.size ≤ 16) →
    PS w pb lb l sh → ExEnv w old ob vp vu pb → Tabs w → B ≤ w.heap.size →
    Calls Tryd.prog 45 #[.int .i64 (n : Int), .int .i64 (m : Int), .bool whole, .pointer (some ⟨ob, 0, none⟩), .pointer (some ⟨vp, 0, none⟩), .pointer (some ⟨vu, 0, none⟩)] w fun e w' =>
      e = .returned (.tuple #[.string (Tr.exBoth f n m whole old l sh).1.1, .string (Tr.exBoth f n m whole old l sh).1.2]) ∧ PS w' pb lb (Tr.exBoth f n m whole old l sh).2.1 (Tr.exBoth f n m whole old l sh).2.2 ∧ Moved B pb lb w w' := by
  induction f with
  | zero => intro n m whole l sh w h1 h2 h3; omega
  | succ f ih =>
    intro n m whole l sh w hnf hm1 hmn hn hl hP hE hT hBw
    have IH := Lib.hid ih
    clear ih
    have c1 := cell_of_one hE.1
    have c2 := cell_of_one hE.2.1
    by_cases h1 : m = n
    · subst h1
      have hbm : ((m : Int) == (m : Int)) = true := by simp
      cases whole with
      | true =>
        have hq : Tr.exBoth (f + 1) m m true old l sh = ((old, old), l, sh) := by simp [Tr.exBoth]
        rw [hq]
        have HP := Lib.hid hP
        clear hP hE hT c2 hq IH
        go_enter Tryd.func45, Tryd.ntmps45
        go_wp2
        go_quiet (fail)
        go_wp2
        go_ret2
        exact ⟨rfl, HP.out, ⟨below_drewN (Below.refl _ _) _, Kept.drewN (Kept.refl _ _) _⟩⟩
      | false =>
        have hq : Tr.exBoth (f + 1) m m false old l sh = ((Tr.last l, Tr.last l), l.dropLast, sh || (Tr.last l).size == 0) := by simp [Tr.exBoth]
        rw [hq]
        have HN := Lib.hid (next_any pb lb l sh w hP B hB2 hB1)
        clear hP hE hT c1 hq IH
        generalize hs1 : (sh || (Tr.last l).size == 0) = sh1 at *
        clear hs1
        go_enter Tryd.func45, Tryd.ntmps45
        go_wp2_with fail
        refine (HN.out).mono ?_
        rintro e w1 ⟨rfl, hp1, hm1⟩
        go_wp2
        go_ret2
        exact ⟨rfl, hp1, hm1⟩
    · have hb1 : ((m : Int) == (n : Int)) = false := beq_eq_false_iff_ne.mpr (by omega)
      have HN := Lib.hid (next_any pb lb l sh w.drew hP B hB2 hB1)
      have hhalf := Tr.half_lt n (by omega)
      have hhalf1 := Tr.half_pos n
      have hH : ∀ W, Calls Tryd.prog 28 #[.int .i64 (n : Int)] W fun e w' => e = .returned (.int .i64 (Tr.half n)) ∧ W = w' := fun W => tree_half_any n (by omega) W
      have HH := Lib.hid hH
      have hq : Tr.exBoth (f + 1) n m whole old l sh = if m ≤ Tr.half n then
          (((Tr.exBoth f (Tr.half n) m whole old l.dropLast (sh || (Tr.last l).size == 0)).1.1, Tr.node (Tr.exBoth f (Tr.half n) m whole old l.dropLast (sh || (Tr.last l).size == 0)).1.2 (Tr.last l)), (Tr.exBoth f (Tr.half n) m whole old l.dropLast (sh || (Tr.last l).size == 0)).2) else
          ((Tr.node (Tr.last l) (Tr.exBoth f (n - Tr.half n) (m - Tr.half n) false old l.dropLast (sh || (Tr.last l).size == 0)).1.1, Tr.node (Tr.last l) (Tr.exBoth f (n - Tr.half n) (m - Tr.half n) false old l.dropLast (sh || (Tr.last l).size == 0)).1.2), (Tr.exBoth f (n - Tr.half n) (m - Tr.half n) false old l.dropLast (sh || (Tr.last l).size == 0)).2) := by
        simp only [Tr.exBoth]
        rw [if_neg h1]
      rw [hq]
      clear hq hH
      have HE := Lib.hid hE
      have HT := Lib.hid hT
      have HP := Lib.hid hP
      have HLAST := Lib.hid (last_le l hl)
      have HLL := Lib.hid (show ∀ s ∈ l.dropLast, s.size ≤ 16 from fun s hs => hl s (List.dropLast_subset l hs))
      clear hE hT hP hl c1
      generalize hk : Tr.half n = k at *
      generalize hs1 : (sh || (Tr.last l).size == 0) = sh1 at *
      have HK := Lib.hid hk
      clear hk hs1
      by_cases hi : m ≤ k
      · rw [if_pos hi]
        have hii : (m : Int) ≤ (k : Int) := by omega
        have hss := exBoth_size f k m whole old l.dropLast sh1 ho HLL.out
        generalize hr : Tr.exBoth f k m whole old l.dropLast sh1 = r at hss ⊢
        have HSS := Lib.hid hss
        have HRR := Lib.hid hr
        clear hss hr
        have hkf : k ≤ f := by omega
        have hkn : k ≤ 1000000 := by omega
        have hm1' := hm1
        have HNM := Lib.hid h1
        clear h1
        go_enter Tryd.func45, Tryd.ntmps45
        go_wp2
        go_region_with (first | (go_at_call 28; refine (HH.out _).mono ?_; rintro e w' ⟨rfl, rfl⟩) | (go_at_call 40; refine (HN.out).mono ?_; rintro e w1 ⟨rfl, hp1, hm1⟩))
        all_goals
          have hE1 : ExEnv w1 old ob vp vu pb := ExEnv.moved (w := w.drew) HE.out (show PS w.drew pb lb l sh from HP.out) hm1
          have hT1 : Tabs w1 := tabs_moved (w := w.drew) HT.out (show PS w.drew pb lb l sh from HP.out) hm1
          have hB1' : B ≤ w1.heap.size := Nat.le_trans hBw hm1.1.size
          have c3 := cell_of_one hE1.2.2
          have hcall := IH.out k m whole l.dropLast sh1 w1 hkf hm1' hi hkn HLL.out hp1 hE1 hT1 hB1'
          rw [HRR.out] at hcall
          have HR := Lib.hid hcall
          clear hcall
          have HM := Lib.hid (show Moved B pb lb w w1 from (Moved.drew B pb lb w).trans hm1)
          have HT1 := Lib.hid hT1
          have HP1 := Lib.hid hp1
          clear hE1 hT1 hm1 hp1 HH HN HE HT HP
          go_wp2_with fail
          refine (HR.out).mono ?_
          rintro e w2 ⟨rfl, hp2, hm2⟩
          have hT2 := tabs_moved HT1.out HP1.out hm2
          have HNO := Lib.hid (tree_node_any r.1.2 (Tr.last l) (by have := HLAST.out; have := HSS.out.2; omega) w2 hT2)
          have HM2 := Lib.hid (HM.out.trans hm2)
          have HP2 := Lib.hid hp2
          have hB2' : B ≤ w2.heap.size := Nat.le_trans hBw HM2.out.1.size
          clear hT2 hm2 hp2
          go_wp2_with fail
          refine (HNO.out).mono ?_
          rintro e w3 ⟨rfl, hb3⟩
          go_wp2
          go_ret2
          exact ⟨rfl, HP2.out.kept hb3, HM2.out.below hB2' hb3⟩
      · rw [if_neg hi]
        have hii : (k : Int) < (m : Int) := by omega
        have hss := exBoth_size f (n - k) (m - k) false old l.dropLast sh1 ho HLL.out
        generalize hr : Tr.exBoth f (n - k) (m - k) false old l.dropLast sh1 = r at hss ⊢
        have HSS := Lib.hid hss
        have HRR := Lib.hid hr
        clear hss hr
        have hkf : n - k ≤ f := by omega
        have hkn : n - k ≤ 1000000 := by omega
        have hkm : 1 ≤ m - k := by omega
        have hik : m - k ≤ n - k := by omega
        have e1 : ((n : Int) - (k : Int)) = ((n - k : Nat) : Int) := by omega
        have e2 : ((m : Int) - (k : Int)) = ((m - k : Nat) : Int) := by omega
        have E1 := Lib.hid e1
        have E2 := Lib.hid e2
        have HNM := Lib.hid h1
        clear h1 e1 e2
        go_enter Tryd.func45, Tryd.ntmps45
        go_wp2
        go_region_with (first | (go_at_call 28; refine (HH.out _).mono ?_; rintro e w' ⟨rfl, rfl⟩) | (go_at_call 40; refine (HN.out).mono ?_; rintro e w1 ⟨rfl, hp1, hm1⟩))
        all_goals
          have hE1 : ExEnv w1 old ob vp vu pb := ExEnv.moved (w := w.drew) HE.out (show PS w.drew pb lb l sh from HP.out) hm1
          have hT1 : Tabs w1 := tabs_moved (w := w.drew) HT.out (show PS w.drew pb lb l sh from HP.out) hm1
          have hB1' : B ≤ w1.heap.size := Nat.le_trans hBw hm1.1.size
          have c3 := cell_of_one hE1.2.2
          have hcall := IH.out (n - k) (m - k) false l.dropLast sh1 w1 hkf hkm hik hkn HLL.out hp1 hE1 hT1 hB1'
          rw [HRR.out] at hcall
          have HR := Lib.hid hcall
          clear hcall
          have HM := Lib.hid (show Moved B pb lb w w1 from (Moved.drew B pb lb w).trans hm1)
          have HT1 := Lib.hid hT1
          have HP1 := Lib.hid hp1
          clear hE1 hT1 hm1 hp1 HH HN HE HT HP
          go_wp2_with fail
          rw [E1.out, E2.out]
          refine (HR.out).mono ?_
          rintro e w2 ⟨rfl, hp2, hm2⟩
          have hT2 := tabs_moved HT1.out HP1.out hm2
          have hT2' := Lib.hid hT2
          have HNO := Lib.hid (tree_node_any (Tr.last l) r.1.1 (by have := HLAST.out; have := HSS.out.1; omega) w2 hT2)
          have HM2 := Lib.hid (HM.out.trans hm2)
          have HP2 := Lib.hid hp2
          have hB2' : B ≤ w2.heap.size := Nat.le_trans hBw HM2.out.1.size
          clear hT2 hm2 hp2
          go_wp2_with fail
          refine (HNO.out).mono ?_
          rintro e w3 ⟨rfl, hb3⟩
          have HNO2 := Lib.hid (tree_node_any (Tr.last l) r.1.2 (by have := HLAST.out; have := HSS.out.2; omega) w3 (tabs_below hT2'.out hb3))
          have HM3 := Lib.hid (HM2.out.below hB2' hb3)
          have HP3 := Lib.hid (HP2.out.kept hb3)
          have hB3' : B ≤ w3.heap.size := Nat.le_trans hBw HM3.out.1.size
          clear hb3 HNO
          go_wp2_with fail
          refine (HNO2.out).mono ?_
          rintro e w4 ⟨rfl, hb4⟩
          go_wp2
          go_ret2
          exact ⟨rfl, HP3.out.kept hb4, HM3.out.below hB3' hb4⟩
end Go.Proofs.YteofiiggnegnkaaDoor.P
/- tree.Extends. -/
namespace Go.Proofs.YteofiiggnegnkaaDoor.P
open Go.RowKit Go.Proofs.YteofiiggnegnkaaDoor Go.Proofs.YteofiiggnegnkaaDoorW.PrintWords Go.Proofs.YteofiiggnegnkaaDoorW.PrintLast Go.Proofs.YteofiiggnegnkaaDoorW.PrintMore
set_option linter.unusedVariables false

theorem joined1_le : (Dg.joinedL [Tr.wEmpty]).length ≤ 140737488355328 := by
  have h3 := Dg.piece_le Tr.wEmpty (by decide)
  have h4 : Tr.wEmpty.size = 5 := rfl
  simp only [Dg.joinedL, List.flatMap_cons, List.flatMap_nil, List.length_append, List.length_nil]
  omega

set_option maxHeartbeats 1000000 in
theorem root_nil (w : World) (hT : Tabs w) :
    Calls Tryd.prog 15 #[.slice none 0 0] w fun e w' => e = .returned (.string Tr.empty) ∧ Below w.heap.size w w' := by
  have HC := Lib.hid (list1_any Tr.wEmpty w hT joined1_le)
  clear hT
  go_enter Tryd.func15, Tryd.ntmps15
  go_wp2_with fail
  refine (HC.out).mono ?_
  rintro e w' ⟨rfl, hb⟩
  go_wp2
  go_ret
  exact ⟨rfl, hb⟩

set_option maxHeartbeats 2000000 in
/-- Extends, where the numbers are out of range. -/
theorem extends_range (old : ByteArray) (m : Int) (root : ByteArray) (n : Int) (A : Option Addr) (c : Nat) (l : List ByteArray) (w : World) (hr : Kd.C Kd.string w A l.length l) (hbig : l.length * 16 ≤ 140737488355328)
    (h : m < 0 ∨ m > n ∨ n > 1000000) :
    Calls Tryd.prog 20 #[.string old, .int .i64 m, .string root, .int .i64 n, .slice A l.length c] w fun e w' => e = .returned (.bool false) ∧ Below w.heap.size w w' := by
  have hb0 : Below w.heap.size w (w.alloc (.cells #[.string old] 9)) := (Below.refl _ _).alloc (Nat.le_refl _) _
  have HC := Lib.hid (clone_any A c l _ (Kd.C_below hr hb0) hbig)
  have HB0 := Lib.hid hb0
  clear hr hb0
  by_cases h1 : m < 0
  · clear h
    go_enter Tryd.func20, Tryd.ntmps20
    go_wp2_with fail
    refine (HC.out).mono ?_
    rintro e w1 ⟨A', c', rfl, hrow, hc1, hc2, hb⟩
    have HB := Lib.hid ((HB0.out.trans (hb.mono (by simp))))
    have hsz1 : w.heap.size ≤ w1.heap.size := HB.out.size
    clear hb hrow
    go_wp2
    go_ret
    exact ⟨rfl, ((HB.out.alloc hsz1 _))⟩
  · have d1 : 0 ≤ m := by omega
    by_cases h2 : n < m
    · clear h
      go_enter Tryd.func20, Tryd.ntmps20
      go_wp2_with fail
      refine (HC.out).mono ?_
      rintro e w1 ⟨A', c', rfl, hrow, hc1, hc2, hb⟩
      have HB := Lib.hid ((HB0.out.trans (hb.mono (by simp))))
      have hsz1 : w.heap.size ≤ w1.heap.size := HB.out.size
      clear hb hrow
      go_wp2
      go_ret
      exact ⟨rfl, ((HB.out.alloc hsz1 _))⟩
    · have d2 : m ≤ n := by omega
      have h3 : 1000000 < n := by omega
      clear h
      go_enter Tryd.func20, Tryd.ntmps20
      go_wp2_with fail
      refine (HC.out).mono ?_
      rintro e w1 ⟨A', c', rfl, hrow, hc1, hc2, hb⟩
      have HB := Lib.hid ((HB0.out.trans (hb.mono (by simp))))
      have hsz1 : w.heap.size ≤ w1.heap.size := HB.out.size
      clear hb hrow
      go_wp2
      go_ret
      exact ⟨rfl, ((HB.out.alloc hsz1 _))⟩

set_option maxHeartbeats 2000000 in
/-- Extends, where a string of the link is no digest. -/
theorem extends_improper (old : ByteArray) (m : Int) (root : ByteArray) (n : Int) (A : Option Addr) (c : Nat) (l : List ByteArray) (w : World) (hr : Kd.C Kd.string w A l.length l) (hbig : l.length * 16 ≤ 140737488355328)
    (h1 : 0 ≤ m) (h2 : m ≤ n) (h3 : n ≤ 1000000) (hp : Tr.proper l = false) :
    Calls Tryd.prog 20 #[.string old, .int .i64 m, .string root, .int .i64 n, .slice A l.length c] w fun e w' => e = .returned (.bool false) ∧ Below w.heap.size w w' := by
  have hb0 : Below w.heap.size w (w.alloc (.cells #[.string old] 9)) := (Below.refl _ _).alloc (Nat.le_refl _) _
  have HC := Lib.hid (clone_any A c l _ (Kd.C_below hr hb0) hbig)
  have HB0 := Lib.hid hb0
  have HL := Lib.hid hr.2.1
  have HP := Lib.hid hp
  clear hr hb0 hp
  go_enter Tryd.func20, Tryd.ntmps20
  go_wp2_with fail
  refine (HC.out).mono ?_
  rintro e w1 ⟨A', c', rfl, hrow, hc1, hc2, hb⟩
  have HB := Lib.hid ((HB0.out.trans (hb.mono (by simp))))
  have hsz1 : w.heap.size ≤ w1.heap.size := HB.out.size
  have hall : Below w1.heap.size w1 (w1.alloc (.cells #[.slice A' l.length c'] 47)) := (Below.refl _ _).alloc (Nat.le_refl _) _
  have hcall := proper_any A' c' l (w1.alloc (.cells #[.slice A' l.length c'] 47)) (Kd.C_below (rowIs_C hrow HL.out) hall)
  rw [HP.out] at hcall
  have HCALL := Lib.hid hcall
  have HALL := Lib.hid hall
  clear hb hrow hall hcall
  go_wp2_with fail
  refine (HCALL.out).mono ?_
  rintro e w2 ⟨rfl, hb2⟩
  go_wp2
  go_ret
  exact ⟨rfl, (HB.out.alloc hsz1 _).trans (hb2.mono (by simp; omega))⟩

/-- proper of a literal of two strings that was just made. -/
theorem proper2_any (a b : ByteArray) (w : World) :
    Calls Tryd.prog 38 #[.slice (some ⟨w.heap.size, 0, none⟩) 2 2] (w.alloc (.cells #[.string a, .string b] 9)) fun e w' => e = .returned (.bool (Tr.proper [a, b])) ∧ Below w.heap.size w w' := by
  have hb : Below w.heap.size w (w.alloc (.cells #[.string a, .string b] 9)) := (Below.refl _ _).alloc (Nat.le_refl _) _
  exact (proper_any (some ⟨w.heap.size, 0, none⟩) 2 [a, b] _ (C_of_block (l := [a, b]) (heap_alloc_new w _) rfl (by simp))).mono fun e w' ⟨he, hw⟩ => ⟨he, hb.trans (hw.mono hb.size)⟩

/-- What stands behind the tests of Extends: a world w3 in which the list, its row and the old root stand. -/
def ExAt (w w3 : World) (old : ByteArray) (lb : Nat) (l : List ByteArray) : Prop :=
  ∃ A c, w3.heap[lb]? = some (.cells #[.slice A l.length c] 47 (0, 0)) ∧ l.length ≤ c ∧ c ≤ 9223372036854775807 ∧ RowIs w3 A l ∧
    w3.heap[w.heap.size]? = some (.cells #[.string old] 9 (0, 0)) ∧ Below w.heap.size w w3 ∧ w.heap.size < lb ∧ Tabs w3

theorem exAt_below {w w3 w4 : World} {old : ByteArray} {lb : Nat} {l : List ByteArray} (h : ExAt w w3 old lb l) (hb : Below w3.heap.size w3 w4) : ExAt w w4 old lb l := by
  obtain ⟨A, c, h1, h2, h3, h4, h5, h6, h7, h8⟩ := h
  exact ⟨A, c, (hb.block _ (lt_of_block h1)).trans h1, h2, h3, rowIs_kept h4 (fun rb cur hr => (hb.block _ (lt_of_block hr)).trans hr), (hb.block _ (lt_of_block h5)).trans h5, h6.trans (hb.mono h6.size), h7, tabs_below h8 hb⟩

theorem exAt_first (w w1 w2 : World) (old : ByteArray) (A' : Option Addr) (c' : Nat) (l : List ByteArray) (hrow : RowIs w1 A' l) (hc1 : l.length ≤ c') (hc2 : c' ≤ 9223372036854775807) (hleaf : w1.heap[w.heap.size]? = some (.cells #[.string old] 9 (0, 0)))
    (hb : Below w.heap.size w w1) (hlt : w.heap.size < w1.heap.size) (hb2 : Below (w1.alloc (.cells #[.slice A' l.length c'] 47)).heap.size (w1.alloc (.cells #[.slice A' l.length c'] 47)) w2) (hT : Tabs w) : ExAt w w2 old w1.heap.size l := by
  have e0 : ExAt w (w1.alloc (.cells #[.slice A' l.length c'] 47)) old w1.heap.size l := by
    have ea : Below w1.heap.size w1 (w1.alloc (.cells #[.slice A' l.length c'] 47)) := (Below.refl _ _).alloc (Nat.le_refl _) _
    have eb := hb.trans (ea.mono (Nat.le_of_lt hlt))
    exact ⟨A', c', heap_alloc_new w1 _, hc1, hc2, rowIs_kept hrow (fun rb cur hr => (ea.block _ (lt_of_block hr)).trans hr), (ea.block _ (lt_of_block hleaf)).trans hleaf, eb, hlt, tabs_below hT eb⟩
  exact exAt_below e0 hb2

theorem extends_state (w w3 : World) (old : ByteArray) (lb : Nat) (l : List ByteArray) (h : ExAt w w3 old lb l) :
    ∀ W4, W4 = (((w3.alloc (.cells #[.pointer (some ⟨lb, 0, none⟩), .bool false] 51)).alloc (.cells #[.pointer (some ⟨w3.heap.size, 0, none⟩)] 48)).alloc
      (.cells #[.func (.func 45) #[] #[.pointer (some ⟨w.heap.size, 0, none⟩), .pointer (some ⟨w3.heap.size + 1, 0, none⟩), .pointer (some ⟨w3.heap.size + 1 + 1, 0, none⟩)]] 55)) →
    PS W4 w3.heap.size lb l false ∧ ExEnv W4 old w.heap.size (w3.heap.size + 1) (w3.heap.size + 1 + 1) w3.heap.size ∧ Tabs W4 ∧ Below w.heap.size w W4 ∧ w.heap.size ≤ w3.heap.size ∧ w.heap.size ≤ lb := by
  intro W4 hW
  have e2 : Below w3.heap.size w3 W4 := by
    subst hW
    exact (((Below.refl _ _).alloc (Nat.le_refl _) _).alloc (by simp) _).alloc (by simp; omega) _
  have hlt := lt_of_block h.choose_spec.choose_spec.1
  obtain ⟨A, c, h1, h2, h3, h4, h5, h6, h7, h8⟩ := exAt_below h e2
  have hpb : W4.heap[w3.heap.size]? = some (.cells #[.pointer (some ⟨lb, 0, none⟩), .bool false] 51 (0, 0)) := by
    subst hW
    rw [Lib.alloc_old _ _ _ (by simp; omega), Lib.alloc_old _ _ _ (by simp)]
    exact heap_alloc_new w3 _
  have hvp : W4.heap[w3.heap.size + 1]? = some (.cells #[.pointer (some ⟨w3.heap.size, 0, none⟩)] 48 (0, 0)) := by
    subst hW
    rw [Lib.alloc_old _ _ _ (by simp)]
    have := heap_alloc_new (w3.alloc (.cells #[.pointer (some ⟨lb, 0, none⟩), .bool false] 51)) (.cells #[.pointer (some ⟨w3.heap.size, 0, none⟩)] 48)
    simpa using this
  have hvu : W4.heap[w3.heap.size + 1 + 1]? = some (.cells #[.func (.func 45) #[] #[.pointer (some ⟨w.heap.size, 0, none⟩), .pointer (some ⟨w3.heap.size + 1, 0, none⟩), .pointer (some ⟨w3.heap.size + 1 + 1, 0, none⟩)]] 55 (0, 0)) := by
    subst hW
    have := heap_alloc_new ((w3.alloc (.cells #[.pointer (some ⟨lb, 0, none⟩), .bool false] 51)).alloc (.cells #[.pointer (some ⟨w3.heap.size, 0, none⟩)] 48)) (.cells #[.func (.func 45) #[] #[.pointer (some ⟨w.heap.size, 0, none⟩), .pointer (some ⟨w3.heap.size + 1, 0, none⟩), .pointer (some ⟨w3.heap.size + 1 + 1, 0, none⟩)]] 55)
    simpa using this
  exact ⟨⟨A, c, h1, h2, h3, h4, hpb⟩, ⟨h5, hvp, hvu⟩, h8, h6, by omega, by omega⟩

set_option maxHeartbeats 2000000 in
/-- Extends, where a root is no digest. -/
theorem extends_roots (old : ByteArray) (m : Int) (root : ByteArray) (n : Int) (A : Option Addr) (c : Nat) (l : List ByteArray) (w : World) (hr : Kd.C Kd.string w A l.length l) (hbig : l.length * 16 ≤ 140737488355328)
    (h1 : 0 ≤ m) (h2 : m ≤ n) (h3 : n ≤ 1000000) (hp : Tr.proper l = true) (hp2 : Tr.proper [old, root] = false) :
    Calls Tryd.prog 20 #[.string old, .int .i64 m, .string root, .int .i64 n, .slice A l.length c] w fun e w' => e = .returned (.bool false) ∧ Below w.heap.size w w' := by
  have hb0 : Below w.heap.size w (w.alloc (.cells #[.string old] 9)) := (Below.refl _ _).alloc (Nat.le_refl _) _
  have HC := Lib.hid (clone_any A c l _ (Kd.C_below hr hb0) hbig)
  have HB0 := Lib.hid hb0
  have HL := Lib.hid hr.2.1
  have HP := Lib.hid hp
  have HP2 := Lib.hid hp2
  have HLEAF := Lib.hid (heap_alloc_new w (.cells #[.string old] 9))
  clear hr hb0 hp hp2
  go_enter Tryd.func20, Tryd.ntmps20
  go_wp2_with fail
  refine (HC.out).mono ?_
  rintro e w1 ⟨A', c', rfl, hrow, hc1, hc2, hb⟩
  have HB := Lib.hid ((HB0.out.trans (hb.mono (by simp))))
  have hsz1 : w.heap.size ≤ w1.heap.size := HB.out.size
  have hall : Below w1.heap.size w1 (w1.alloc (.cells #[.slice A' l.length c'] 47)) := (Below.refl _ _).alloc (Nat.le_refl _) _
  have hcall := proper_any A' c' l (w1.alloc (.cells #[.slice A' l.length c'] 47)) (Kd.C_below (rowIs_C hrow HL.out) hall)
  rw [HP.out] at hcall
  have HCALL := Lib.hid hcall
  have hleaf := (hb.block _ (by simp)).trans HLEAF.out
  have hlt := lt_of_block hleaf
  have HL1 := Lib.hid hleaf
  clear hb hrow hall hcall hleaf
  go_wp2_with fail
  refine (HCALL.out).mono ?_
  rintro e w2 ⟨rfl, hb2⟩
  have hbz := hb2.size
  have hl2 : w2.heap[w.heap.size]? = some (.cells #[.string old] 9 (0, 0)) := (hb2.block _ (by simp; omega)).trans ((Lib.alloc_old w1 _ _ hlt).trans HL1.out)
  have cob := cell_of_one hl2
  have HBW2 := Lib.hid ((HB.out.alloc hsz1 _).trans (hb2.mono (by simp; omega)))
  have hp2c := proper2_any old root w2
  rw [HP2.out] at hp2c
  have HPC := Lib.hid hp2c
  clear hb2 hl2 hp2c hbz
  go_wp2_with fail
  refine (HPC.out).mono ?_
  rintro e w3 ⟨rfl, hb3⟩
  go_wp2
  go_ret
  exact ⟨rfl, HBW2.out.trans (hb3.mono HBW2.out.size)⟩
end Go.Proofs.YteofiiggnegnkaaDoor.P
/- tree.Extends: the old root of no elements; the link's walk; the contract. -/
namespace Go.Proofs.YteofiiggnegnkaaDoor.P
open Go.RowKit Go.Proofs.YteofiiggnegnkaaDoor Go.Proofs.YteofiiggnegnkaaDoorW.PrintWords Go.Proofs.YteofiiggnegnkaaDoorW.PrintLast Go.Proofs.YteofiiggnegnkaaDoorW.PrintMore
set_option linter.unusedVariables false

theorem toList_eq_iff (a b : ByteArray) : (a.toList == b.toList) = decide (a = b) := by
  rw [Bool.eq_iff_iff, beq_iff_eq, decide_eq_true_iff, ByteArray.toList_eq, ByteArray.toList_eq]
  exact ⟨fun h => ByteArray.ext (Array.toList_inj.1 h), fun h => by rw [h]⟩

/-- Extends for no elements, the way to the tests; 'P' is what is left to show. -/
def ExZero (old root : ByteArray) (n : Int) (l : List ByteArray) : Bool := l.length == 0 && (decide (old = Tr.empty) && (decide (n > 0) || decide (root = old)))

theorem exAt_cell {w w3 : World} {old : ByteArray} {lb : Nat} {l : List ByteArray} (h : ExAt w w3 old lb l) : w3.cell? ⟨w.heap.size, 0, none⟩ = some (.string old) := by
  obtain ⟨_, _, _, _, _, _, h5, _⟩ := h
  exact cell_of_one h5

set_option maxHeartbeats 8000000 in
set_option maxRecDepth 100000 in
theorem extends_zero (old : ByteArray) (root : ByteArray) (n : Int) (A : Option Addr) (c : Nat) (l : List ByteArray) (w : World) (hr : Kd.C Kd.string w A l.length l) (hbig : l.length * 16 ≤ 140737488355328) (hT : Tabs w)
    (h2 : 0 ≤ n) (h3 : n ≤ 1000000) (hp : Tr.proper l = true) (hp2 : Tr.proper [old, root] = true) :
    Calls Tryd.prog 20 #[.string old, .int .i64 0, .string root, .int .i64 n, .slice A l.length c] w fun e w' => e = .returned (.bool (ExZero old root n l)) ∧ Below w.heap.size w w' := by
  have hb0 : Below w.heap.size w (w.alloc (.cells #[.string old] 9)) := (Below.refl _ _).alloc (Nat.le_refl _) _
  have HC := Lib.hid (clone_any A c l _ (Kd.C_below hr hb0) hbig)
  have HB0 := Lib.hid hb0
  have HL := Lib.hid hr.2.1
  have HP := Lib.hid hp
  have HP2 := Lib.hid hp2
  have HT := Lib.hid hT
  have HLEAF := Lib.hid (heap_alloc_new w (.cells #[.string old] 9))
  clear hr hb0 hp hp2 hT
  by_cases hl0 : l.length = 0
  case neg =>
    have hz : ((l.length : Int) == 0) = false := beq_eq_false_iff_ne.mpr (by omega)
    have hzz : ExZero old root n l = false := by unfold ExZero; rw [beq_eq_false_iff_ne.mpr hl0]; rfl
    have HZZ := Lib.hid hzz
    have HL0 := Lib.hid hl0
    clear hzz hl0
    go_enter Tryd.func20, Tryd.ntmps20
    go_wp2_with fail
    refine (HC.out).mono ?_
    rintro e w1 ⟨A', c', rfl, hrow, hc1, hc2, hb⟩
    have hleaf := (hb.block _ (by simp)).trans HLEAF.out
    have hlt := lt_of_block hleaf
    have hbb := (HB0.out.trans (hb.mono (by simp)))
    have hall : Below w1.heap.size w1 (w1.alloc (.cells #[.slice A' l.length c'] 47)) := (Below.refl _ _).alloc (Nat.le_refl _) _
    have hcall := proper_any A' c' l (w1.alloc (.cells #[.slice A' l.length c'] 47)) (Kd.C_below (rowIs_C hrow HL.out) hall)
    rw [HP.out] at hcall
    have HCALL := Lib.hid hcall
    have HFIRST := Lib.hid (fun w2 hb2 => exAt_first w w1 w2 old A' c' l hrow hc1 hc2 hleaf hbb hlt hb2 HT.out)
    clear hb hrow hall hcall hleaf hbb
    go_wp2_with fail
    refine (HCALL.out).mono ?_
    rintro e w2 ⟨rfl, hb2⟩
    have hex := HFIRST.out w2 hb2
    have cob : w2.cell? ⟨w.heap.size, 0, none⟩ = some (.string old) := by
      obtain ⟨_, _, _, _, _, _, h5, _⟩ := hex
      exact cell_of_one h5
    have hp2c := proper2_any old root w2
    rw [HP2.out] at hp2c
    have HPC := Lib.hid hp2c
    have HEX := Lib.hid hex
    clear hb2 hp2c hex
    go_wp2_with fail
    refine (HPC.out).mono ?_
    rintro e w3 ⟨rfl, hb3⟩
    have HEX3 := Lib.hid (exAt_below HEX.out hb3)
    clear hb3
    go_wp2
    go_quiet (fail)
    go_wp2
    go_ret
    obtain ⟨_, _, _, _, _, _, _, h6, _⟩ := HEX3.out
    exact ⟨by rw [HZZ.out]; rfl, below_drewN h6 _⟩
  case pos =>
    have hl : l = [] := List.eq_nil_of_length_eq_zero hl0
    subst hl
    have hzz : ExZero old root n [] = (decide (old = Tr.empty) && (decide (n > 0) || decide (root = old))) := by unfold ExZero; rfl
    have hb1 := toList_eq_iff old Tr.empty
    by_cases ho : old = Tr.empty
    · rw [decide_eq_true ho] at hb1
      rw [decide_eq_true ho] at hzz
      clear ho hl0
      generalize he : Tr.empty = em at hb1
      have HEM := Lib.hid he
      clear he
      by_cases hn : 0 < n
      · have HZ3 : Hid (ExZero old root n [] = true) := Lib.hid (by rw [hzz]; simp [hn])
        clear hzz
        go_enter Tryd.func20, Tryd.ntmps20
        go_wp2_with fail
        refine (HC.out).mono ?_
        rintro e w1 ⟨A', c', rfl, hrow, hc1, hc2, hb⟩
        have hleaf := (hb.block _ (by simp)).trans HLEAF.out
        have hlt := lt_of_block hleaf
        have hbb := (HB0.out.trans (hb.mono (by simp)))
        have hall : Below w1.heap.size w1 (w1.alloc (.cells #[.slice A' 0 c'] 47)) := (Below.refl _ _).alloc (Nat.le_refl _) _
        have hcall := proper_any A' c' [] (w1.alloc (.cells #[.slice A' 0 c'] 47)) (Kd.C_below (rowIs_C hrow HL.out) hall)
        rw [HP.out] at hcall
        have HCALL := Lib.hid hcall
        have HFIRST := Lib.hid (fun w2 hb2 => exAt_first w w1 w2 old A' c' [] hrow hc1 hc2 hleaf hbb hlt hb2 HT.out)
        clear hb hrow hall hcall hleaf hbb
        go_wp2_with fail
        refine (HCALL.out).mono ?_
        rintro e w2 ⟨rfl, hb2⟩
        have hex := HFIRST.out w2 hb2
        have cob : w2.cell? ⟨w.heap.size, 0, none⟩ = some (.string old) := exAt_cell hex
        have hp2c := proper2_any old root w2
        rw [HP2.out] at hp2c
        have HPC := Lib.hid hp2c
        have HEX := Lib.hid hex
        clear hb2 hp2c hex
        go_wp2_with fail
        refine (HPC.out).mono ?_
        rintro e w3 ⟨rfl, hb3⟩
        have hex3 := exAt_below HEX.out hb3
        have cob3 : w3.cell? ⟨w.heap.size, 0, none⟩ = some (.string old) := exAt_cell hex3
        have cob3d : w3.drew.cell? ⟨w.heap.size, 0, none⟩ = some (.string old) := cob3
        have hexd : ExAt w w3.drew old w1.heap.size [] := exAt_below hex3 ((Below.refl _ _).drew)
        have hrn : ∀ W, Tabs W → Calls Tryd.prog 15 #[.slice none 0 0] W fun e w' => e = .returned (.string em) ∧ Below W.heap.size W w' := by
          rw [← HEM.out]; exact root_nil
        have HRN := Lib.hid hrn
        have HTW := Lib.hid (show Tabs w3.drew from hexd.choose_spec.choose_spec.2.2.2.2.2.2.2)
        have HEXD := Lib.hid hexd
        clear hb3 hex3 hrn cob hexd
        go_wp2
        refine start_ (n := 18) (S := fun w' => w'.cell? ⟨w.heap.size, 0, none⟩ = some (.string old)) (ds := []) #[false, false, false, false, false, false, false, false, false, false, false, false, false, false, false, false, false, false] (by kernel_rfl) rfl rfl (cob3d) (fun hHeld => ?_)
        refine pure_ (i := 0) (N := some 43) (v := ?_) (a' := ?_) #[true, false, false, false, false, false, false, false, false, false, false, false, false, false, false, false, false, false] rfl rfl (by kernel_rfl) (fun _ _ _ h => h) (Or.inl ⟨by rfl, ?_⟩) ?_ ?_
        rotate_left
        · intro w'
          go_simp
          with_reducible rfl
        rotate_left
        · simp only [Act.put, List.setIfInBounds_toArray, List.set_cons_zero, List.set_cons_succ, i64_w, i32_w]
          rfl
        refine pure_ (i := 1) (N := some 44) (v := ?_) (a' := ?_) #[true, true, false, false, false, false, false, false, false, false, false, false, false, false, false, false, false, false] rfl rfl (by kernel_rfl) (fun _ _ _ h => h) (Or.inl ⟨by rfl, ?_⟩) ?_ ?_
        rotate_left
        · intro w'
          go_simp
          with_reducible rfl
        rotate_left
        · simp only [Act.put, List.setIfInBounds_toArray, List.set_cons_zero, List.set_cons_succ, i64_w, i32_w]
          rfl
        refine pure_ (i := 2) (N := some 45) (v := ?_) (a' := ?_) #[true, true, true, false, false, false, false, false, false, false, false, false, false, false, false, false, false, false] rfl rfl (by kernel_rfl) (fun _ _ _ h => h) (Or.inl ⟨by rfl, ?_⟩) ?_ ?_
        rotate_left
        · intro w'
          go_simp
          with_reducible rfl
        rotate_left
        · simp only [Act.put, List.setIfInBounds_toArray, List.set_cons_zero, List.set_cons_succ, i64_w, i32_w]
          rfl
        refine pure_ (i := 3) (N := some 46) (v := ?_) (a' := ?_) #[true, true, true, true, false, false, false, false, false, false, false, false, false, false, false, false, false, false] rfl rfl (by kernel_rfl) (fun _ _ _ h => h) (Or.inl ⟨by rfl, ?_⟩) ?_ ?_
        rotate_left
        · intro w'
          go_simp
          with_reducible rfl
        rotate_left
        · simp only [Act.put, List.setIfInBounds_toArray, List.set_cons_zero, List.set_cons_succ, i64_w, i32_w]
          rfl
        refine take_ (i := 4) (N := some 47) (v := ?_) (a' := ?_) #[true, true, true, true, true, false, false, false, false, false, false, false, false, false, false, false, false, false] rfl rfl (by kernel_rfl) (fun _ _ _ h => h) (Or.inl ⟨by rfl, ?_⟩) hHeld ?_ ?_
        rotate_left
        · intro w' hSw
          go_simp
          with_reducible rfl
        rotate_left
        · simp only [Act.put, List.setIfInBounds_toArray, List.set_cons_zero, List.set_cons_succ, i64_w, i32_w]
          rfl
        refine one_ (i := 5) (N := some 48) #[true, true, true, true, true, true, false, false, false, false, false, false, false, false, false, false, false, false] rfl rfl (by kernel_rfl) (by decide) (fun K hK => ?_)
        refine goes_ Tryd.func15 (by kernel_rfl) rfl #[.slice none 0 0] (by rfl) rfl rfl (by (try simp only [List.map_toArray, List.map_cons, List.map_nil]); first | done | rfl) ?_
        with_reducible refine (HRN.out _ HTW.out).mono ?_
        rintro e w4 ⟨rfl, hb4⟩
        refine ⟨_, rfl, ?_⟩
        have hex4 := exAt_below HEXD.out hb4
        have HEX4 := Lib.hid hex4
        have cob4 : w4.cell? ⟨w.heap.size, 0, none⟩ = some (.string old) := exAt_cell hex4
        clear hex4 hb4
        refine hK.out _ _ (cob4) (fun hHeld => ?_)
        clear hK K
        refine norm_ (a' := ?_) ?_ ?_
        rotate_left
        · show Act.put _ (some 48) _ = _
          simp only [Act.put, List.setIfInBounds_toArray, List.set_cons_zero, List.set_cons_succ, i64_w, i32_w]
          rfl
        refine pure_ (i := 6) (N := some 49) (v := ?_) (a' := ?_) #[true, true, true, true, true, true, true, false, false, false, false, false, false, false, false, false, false, false] rfl rfl (by kernel_rfl) (fun _ _ _ h => h) (Or.inl ⟨by rfl, ?_⟩) ?_ ?_
        rotate_left
        · intro w'
          go_simp
          with_reducible rfl
        rotate_left
        · simp only [Act.put, List.setIfInBounds_toArray, List.set_cons_zero, List.set_cons_succ, i64_w, i32_w]
          rfl
        refine pure_ (i := 7) (N := some 50) (v := ?_) (a' := ?_) #[true, true, true, true, true, true, true, true, false, false, false, false, false, false, false, false, false, false] rfl rfl (by kernel_rfl) (fun _ _ _ h => h) (Or.inl ⟨by rfl, ?_⟩) ?_ ?_
        rotate_left
        · intro w'
          go_simp
          with_reducible rfl
        rotate_left
        · simp only [Act.put, List.setIfInBounds_toArray, List.set_cons_zero, List.set_cons_succ, i64_w, i32_w]
          rfl
        refine pure_ (i := 8) (N := some 51) (v := ?_) (a' := ?_) #[true, true, true, true, true, true, true, true, true, false, false, false, false, false, false, false, false, false] rfl rfl (by kernel_rfl) (fun _ _ _ h => h) (Or.inl ⟨by rfl, ?_⟩) ?_ ?_
        rotate_left
        · intro w'
          go_simp
          with_reducible rfl
        rotate_left
        · simp only [Act.put, List.setIfInBounds_toArray, List.set_cons_zero, List.set_cons_succ, i64_w, i32_w]
          rfl
        refine pure_ (i := 9) (N := some 52) (v := ?_) (a' := ?_) #[true, true, true, true, true, true, true, true, true, true, false, false, false, false, false, false, false, false] rfl rfl (by kernel_rfl) (fun _ _ _ h => h) (Or.inl ⟨by rfl, ?_⟩) ?_ ?_
        rotate_left
        · intro w'
          go_simp
          with_reducible rfl
        rotate_left
        · simp only [Act.put, List.setIfInBounds_toArray, List.set_cons_zero, List.set_cons_succ, i64_w, i32_w]
          rfl
        refine pure_ (i := 10) (N := some 53) (v := ?_) (a' := ?_) #[true, true, true, true, true, true, true, true, true, true, true, false, false, false, false, false, false, false] rfl rfl (by kernel_rfl) (fun _ _ _ h => h) (Or.inl ⟨by rfl, ?_⟩) ?_ ?_
        rotate_left
        · intro w'
          go_simp
          with_reducible rfl
        rotate_left
        · simp only [Act.put, List.setIfInBounds_toArray, List.set_cons_zero, List.set_cons_succ, i64_w, i32_w]
          rfl
        refine pure_ (i := 11) (N := some 54) (v := ?_) (a' := ?_) #[true, true, true, true, true, true, true, true, true, true, true, true, false, false, false, false, false, false] rfl rfl (by kernel_rfl) (fun _ _ _ h => h) (Or.inl ⟨by rfl, ?_⟩) ?_ ?_
        rotate_left
        · intro w'
          go_simp
          with_reducible rfl
        rotate_left
        · simp only [Act.put, List.setIfInBounds_toArray, List.set_cons_zero, List.set_cons_succ, i64_w, i32_w]
          rfl
        refine pure_ (i := 12) (N := some 55) (v := undef) (a' := ?_) #[true, true, true, true, true, true, true, true, true, true, true, true, true, false, false, false, false, false] rfl rfl (by kernel_rfl) (fun _ _ _ h => h) (Or.inr ⟨by rfl, rfl⟩) ?_ ?_
        rotate_left
        · simp only [Act.put, List.setIfInBounds_toArray, List.set_cons_zero, List.set_cons_succ, i64_w, i32_w]
          rfl
        refine pure_ (i := 13) (N := some 56) (v := undef) (a' := ?_) #[true, true, true, true, true, true, true, true, true, true, true, true, true, true, false, false, false, false] rfl rfl (by kernel_rfl) (fun _ _ _ h => h) (Or.inr ⟨by rfl, rfl⟩) ?_ ?_
        rotate_left
        · simp only [Act.put, List.setIfInBounds_toArray, List.set_cons_zero, List.set_cons_succ, i64_w, i32_w]
          rfl
        refine pure_ (i := 14) (N := some 57) (v := undef) (a' := ?_) #[true, true, true, true, true, true, true, true, true, true, true, true, true, true, true, false, false, false] rfl rfl (by kernel_rfl) (fun _ _ _ h => h) (Or.inr ⟨by rfl, rfl⟩) ?_ ?_
        rotate_left
        · simp only [Act.put, List.setIfInBounds_toArray, List.set_cons_zero, List.set_cons_succ, i64_w, i32_w]
          rfl
        refine pure_ (i := 15) (N := some 58) (v := ?_) (a' := ?_) #[true, true, true, true, true, true, true, true, true, true, true, true, true, true, true, true, false, false] rfl rfl (by kernel_rfl) (fun _ _ _ h => h) (Or.inl ⟨by rfl, ?_⟩) ?_ ?_
        rotate_left
        · intro w'
          go_simp
          with_reducible rfl
        rotate_left
        · simp only [Act.put, List.setIfInBounds_toArray, List.set_cons_zero, List.set_cons_succ, i64_w, i32_w]
          rfl
        refine pure_ (i := 16) (N := some 59) (v := ?_) (a' := ?_) #[true, true, true, true, true, true, true, true, true, true, true, true, true, true, true, true, true, false] rfl rfl (by kernel_rfl) (fun _ _ _ h => h) (Or.inl ⟨by rfl, ?_⟩) ?_ ?_
        rotate_left
        · intro w'
          go_simp
          with_reducible rfl
        rotate_left
        · simp only [Act.put, List.setIfInBounds_toArray, List.set_cons_zero, List.set_cons_succ, i64_w, i32_w]
          rfl
        refine pure_ (i := 17) (N := some 10) (v := ?_) (a' := ?_) #[true, true, true, true, true, true, true, true, true, true, true, true, true, true, true, true, true, true] rfl rfl (by kernel_rfl) (fun _ _ _ h => h) (Or.inl ⟨by rfl, ?_⟩) ?_ ?_
        rotate_left
        · intro w'
          go_simp
          with_reducible rfl
        rotate_left
        · simp only [Act.put, List.setIfInBounds_toArray, List.set_cons_zero, List.set_cons_succ, i64_w, i32_w]
          rfl
        refine done_ (by kernel_rfl) ?_
        go_wp2
        go_ret
        obtain ⟨_, _, _, _, _, _, _, h6, _⟩ := HEX4.out
        exact ⟨by rw [HZ3.out]; rfl, h6⟩
      · have hn0 : n = 0 := by omega
        subst hn0
        have hb2 := toList_eq_iff root old
        by_cases hro : root = old
        · rw [decide_eq_true hro] at hb2
          have HZ3 : Hid (ExZero old root 0 [] = true) := Lib.hid (by rw [hzz, decide_eq_true hro]; simp)
          clear hzz hro hn
          go_enter Tryd.func20, Tryd.ntmps20
          go_wp2_with fail
          refine (HC.out).mono ?_
          rintro e w1 ⟨A', c', rfl, hrow, hc1, hc2, hb⟩
          have hleaf := (hb.block _ (by simp)).trans HLEAF.out
          have hlt := lt_of_block hleaf
          have hbb := (HB0.out.trans (hb.mono (by simp)))
          have hall : Below w1.heap.size w1 (w1.alloc (.cells #[.slice A' 0 c'] 47)) := (Below.refl _ _).alloc (Nat.le_refl _) _
          have hcall := proper_any A' c' [] (w1.alloc (.cells #[.slice A' 0 c'] 47)) (Kd.C_below (rowIs_C hrow HL.out) hall)
          rw [HP.out] at hcall
          have HCALL := Lib.hid hcall
          have HFIRST := Lib.hid (fun w2 hb2 => exAt_first w w1 w2 old A' c' [] hrow hc1 hc2 hleaf hbb hlt hb2 HT.out)
          clear hb hrow hall hcall hleaf hbb
          go_wp2_with fail
          refine (HCALL.out).mono ?_
          rintro e w2 ⟨rfl, hb2⟩
          have hex := HFIRST.out w2 hb2
          have cob : w2.cell? ⟨w.heap.size, 0, none⟩ = some (.string old) := exAt_cell hex
          have hp2c := proper2_any old root w2
          rw [HP2.out] at hp2c
          have HPC := Lib.hid hp2c
          have HEX := Lib.hid hex
          clear hb2 hp2c hex
          go_wp2_with fail
          refine (HPC.out).mono ?_
          rintro e w3 ⟨rfl, hb3⟩
          have hex3 := exAt_below HEX.out hb3
          have cob3 : w3.cell? ⟨w.heap.size, 0, none⟩ = some (.string old) := exAt_cell hex3
          have cob3d : w3.drew.cell? ⟨w.heap.size, 0, none⟩ = some (.string old) := cob3
          have hexd : ExAt w w3.drew old w1.heap.size [] := exAt_below hex3 ((Below.refl _ _).drew)
          have hrn : ∀ W, Tabs W → Calls Tryd.prog 15 #[.slice none 0 0] W fun e w' => e = .returned (.string em) ∧ Below W.heap.size W w' := by
            rw [← HEM.out]; exact root_nil
          have HRN := Lib.hid hrn
          have HTW := Lib.hid (show Tabs w3.drew from hexd.choose_spec.choose_spec.2.2.2.2.2.2.2)
          have HEXD := Lib.hid hexd
          clear hb3 hex3 hrn cob hexd
          go_wp2
          refine start_ (n := 18) (S := fun w' => w'.cell? ⟨w.heap.size, 0, none⟩ = some (.string old)) (ds := []) #[false, false, false, false, false, false, false, false, false, false, false, false, false, false, false, false, false, false] (by kernel_rfl) rfl rfl (cob3d) (fun hHeld => ?_)
          refine pure_ (i := 0) (N := some 43) (v := ?_) (a' := ?_) #[true, false, false, false, false, false, false, false, false, false, false, false, false, false, false, false, false, false] rfl rfl (by kernel_rfl) (fun _ _ _ h => h) (Or.inl ⟨by rfl, ?_⟩) ?_ ?_
          rotate_left
          · intro w'
            go_simp
            with_reducible rfl
          rotate_left
          · simp only [Act.put, List.setIfInBounds_toArray, List.set_cons_zero, List.set_cons_succ, i64_w, i32_w]
            rfl
          refine pure_ (i := 1) (N := some 44) (v := ?_) (a' := ?_) #[true, true, false, false, false, false, false, false, false, false, false, false, false, false, false, false, false, false] rfl rfl (by kernel_rfl) (fun _ _ _ h => h) (Or.inl ⟨by rfl, ?_⟩) ?_ ?_
          rotate_left
          · intro w'
            go_simp
            with_reducible rfl
          rotate_left
          · simp only [Act.put, List.setIfInBounds_toArray, List.set_cons_zero, List.set_cons_succ, i64_w, i32_w]
            rfl
          refine pure_ (i := 2) (N := some 45) (v := ?_) (a' := ?_) #[true, true, true, false, false, false, false, false, false, false, false, false, false, false, false, false, false, false] rfl rfl (by kernel_rfl) (fun _ _ _ h => h) (Or.inl ⟨by rfl, ?_⟩) ?_ ?_
          rotate_left
          · intro w'
            go_simp
            with_reducible rfl
          rotate_left
          · simp only [Act.put, List.setIfInBounds_toArray, List.set_cons_zero, List.set_cons_succ, i64_w, i32_w]
            rfl
          refine pure_ (i := 3) (N := some 46) (v := ?_) (a' := ?_) #[true, true, true, true, false, false, false, false, false, false, false, false, false, false, false, false, false, false] rfl rfl (by kernel_rfl) (fun _ _ _ h => h) (Or.inl ⟨by rfl, ?_⟩) ?_ ?_
          rotate_left
          · intro w'
            go_simp
            with_reducible rfl
          rotate_left
          · simp only [Act.put, List.setIfInBounds_toArray, List.set_cons_zero, List.set_cons_succ, i64_w, i32_w]
            rfl
          refine take_ (i := 4) (N := some 47) (v := ?_) (a' := ?_) #[true, true, true, true, true, false, false, false, false, false, false, false, false, false, false, false, false, false] rfl rfl (by kernel_rfl) (fun _ _ _ h => h) (Or.inl ⟨by rfl, ?_⟩) hHeld ?_ ?_
          rotate_left
          · intro w' hSw
            go_simp
            with_reducible rfl
          rotate_left
          · simp only [Act.put, List.setIfInBounds_toArray, List.set_cons_zero, List.set_cons_succ, i64_w, i32_w]
            rfl
          refine one_ (i := 5) (N := some 48) #[true, true, true, true, true, true, false, false, false, false, false, false, false, false, false, false, false, false] rfl rfl (by kernel_rfl) (by decide) (fun K hK => ?_)
          refine goes_ Tryd.func15 (by kernel_rfl) rfl #[.slice none 0 0] (by rfl) rfl rfl (by (try simp only [List.map_toArray, List.map_cons, List.map_nil]); first | done | rfl) ?_
          with_reducible refine (HRN.out _ HTW.out).mono ?_
          rintro e w4 ⟨rfl, hb4⟩
          refine ⟨_, rfl, ?_⟩
          have hex4 := exAt_below HEXD.out hb4
          have HEX4 := Lib.hid hex4
          have cob4 : w4.cell? ⟨w.heap.size, 0, none⟩ = some (.string old) := exAt_cell hex4
          clear hex4 hb4
          refine hK.out _ _ (cob4) (fun hHeld => ?_)
          clear hK K
          refine norm_ (a' := ?_) ?_ ?_
          rotate_left
          · show Act.put _ (some 48) _ = _
            simp only [Act.put, List.setIfInBounds_toArray, List.set_cons_zero, List.set_cons_succ, i64_w, i32_w]
            rfl
          refine pure_ (i := 6) (N := some 49) (v := ?_) (a' := ?_) #[true, true, true, true, true, true, true, false, false, false, false, false, false, false, false, false, false, false] rfl rfl (by kernel_rfl) (fun _ _ _ h => h) (Or.inl ⟨by rfl, ?_⟩) ?_ ?_
          rotate_left
          · intro w'
            go_simp
            with_reducible rfl
          rotate_left
          · simp only [Act.put, List.setIfInBounds_toArray, List.set_cons_zero, List.set_cons_succ, i64_w, i32_w]
            rfl
          refine pure_ (i := 7) (N := some 50) (v := ?_) (a' := ?_) #[true, true, true, true, true, true, true, true, false, false, false, false, false, false, false, false, false, false] rfl rfl (by kernel_rfl) (fun _ _ _ h => h) (Or.inl ⟨by rfl, ?_⟩) ?_ ?_
          rotate_left
          · intro w'
            go_simp
            with_reducible rfl
          rotate_left
          · simp only [Act.put, List.setIfInBounds_toArray, List.set_cons_zero, List.set_cons_succ, i64_w, i32_w]
            rfl
          refine pure_ (i := 8) (N := some 51) (v := ?_) (a' := ?_) #[true, true, true, true, true, true, true, true, true, false, false, false, false, false, false, false, false, false] rfl rfl (by kernel_rfl) (fun _ _ _ h => h) (Or.inl ⟨by rfl, ?_⟩) ?_ ?_
          rotate_left
          · intro w'
            go_simp
            with_reducible rfl
          rotate_left
          · simp only [Act.put, List.setIfInBounds_toArray, List.set_cons_zero, List.set_cons_succ, i64_w, i32_w]
            rfl
          refine pure_ (i := 9) (N := some 52) (v := ?_) (a' := ?_) #[true, true, true, true, true, true, true, true, true, true, false, false, false, false, false, false, false, false] rfl rfl (by kernel_rfl) (fun _ _ _ h => h) (Or.inl ⟨by rfl, ?_⟩) ?_ ?_
          rotate_left
          · intro w'
            go_simp
            with_reducible rfl
          rotate_left
          · simp only [Act.put, List.setIfInBounds_toArray, List.set_cons_zero, List.set_cons_succ, i64_w, i32_w]
            rfl
          refine pure_ (i := 10) (N := some 53) (v := ?_) (a' := ?_) #[true, true, true, true, true, true, true, true, true, true, true, false, false, false, false, false, false, false] rfl rfl (by kernel_rfl) (fun _ _ _ h => h) (Or.inl ⟨by rfl, ?_⟩) ?_ ?_
          rotate_left
          · intro w'
            go_simp
            with_reducible rfl
          rotate_left
          · simp only [Act.put, List.setIfInBounds_toArray, List.set_cons_zero, List.set_cons_succ, i64_w, i32_w]
            rfl
          refine pure_ (i := 11) (N := some 54) (v := ?_) (a' := ?_) #[true, true, true, true, true, true, true, true, true, true, true, true, false, false, false, false, false, false] rfl rfl (by kernel_rfl) (fun _ _ _ h => h) (Or.inl ⟨by rfl, ?_⟩) ?_ ?_
          rotate_left
          · intro w'
            go_simp
            with_reducible rfl
          rotate_left
          · simp only [Act.put, List.setIfInBounds_toArray, List.set_cons_zero, List.set_cons_succ, i64_w, i32_w]
            rfl
          refine pure_ (i := 12) (N := some 55) (v := ?_) (a' := ?_) #[true, true, true, true, true, true, true, true, true, true, true, true, true, false, false, false, false, false] rfl rfl (by kernel_rfl) (fun _ _ _ h => h) (Or.inl ⟨by rfl, ?_⟩) ?_ ?_
          rotate_left
          · intro w'
            go_simp
            with_reducible rfl
          rotate_left
          · simp only [Act.put, List.setIfInBounds_toArray, List.set_cons_zero, List.set_cons_succ, i64_w, i32_w]
            rfl
          refine take_ (i := 13) (N := some 56) (v := ?_) (a' := ?_) #[true, true, true, true, true, true, true, true, true, true, true, true, true, true, false, false, false, false] rfl rfl (by kernel_rfl) (fun _ _ _ h => h) (Or.inl ⟨by rfl, ?_⟩) hHeld ?_ ?_
          rotate_left
          · intro w' hSw
            go_simp
            with_reducible rfl
          rotate_left
          · simp only [Act.put, List.setIfInBounds_toArray, List.set_cons_zero, List.set_cons_succ, i64_w, i32_w]
            rfl
          refine pure_ (i := 14) (N := some 57) (v := ?_) (a' := ?_) #[true, true, true, true, true, true, true, true, true, true, true, true, true, true, true, false, false, false] rfl rfl (by kernel_rfl) (fun _ _ _ h => h) (Or.inl ⟨by rfl, ?_⟩) ?_ ?_
          rotate_left
          · intro w'
            go_simp
            with_reducible rfl
          rotate_left
          · simp only [Act.put, List.setIfInBounds_toArray, List.set_cons_zero, List.set_cons_succ, i64_w, i32_w]
            rfl
          refine pure_ (i := 15) (N := some 58) (v := ?_) (a' := ?_) #[true, true, true, true, true, true, true, true, true, true, true, true, true, true, true, true, false, false] rfl rfl (by kernel_rfl) (fun _ _ _ h => h) (Or.inl ⟨by rfl, ?_⟩) ?_ ?_
          rotate_left
          · intro w'
            go_simp
            with_reducible rfl
          rotate_left
          · simp only [Act.put, List.setIfInBounds_toArray, List.set_cons_zero, List.set_cons_succ, i64_w, i32_w]
            rfl
          refine pure_ (i := 16) (N := some 59) (v := ?_) (a' := ?_) #[true, true, true, true, true, true, true, true, true, true, true, true, true, true, true, true, true, false] rfl rfl (by kernel_rfl) (fun _ _ _ h => h) (Or.inl ⟨by rfl, ?_⟩) ?_ ?_
          rotate_left
          · intro w'
            go_simp
            with_reducible rfl
          rotate_left
          · simp only [Act.put, List.setIfInBounds_toArray, List.set_cons_zero, List.set_cons_succ, i64_w, i32_w]
            rfl
          refine pure_ (i := 17) (N := some 10) (v := ?_) (a' := ?_) #[true, true, true, true, true, true, true, true, true, true, true, true, true, true, true, true, true, true] rfl rfl (by kernel_rfl) (fun _ _ _ h => h) (Or.inl ⟨by rfl, ?_⟩) ?_ ?_
          rotate_left
          · intro w'
            go_simp
            with_reducible rfl
          rotate_left
          · simp only [Act.put, List.setIfInBounds_toArray, List.set_cons_zero, List.set_cons_succ, i64_w, i32_w]
            rfl
          refine done_ (by kernel_rfl) ?_
          go_wp2
          go_ret
          obtain ⟨_, _, _, _, _, _, _, h6, _⟩ := HEX4.out
          exact ⟨by rw [HZ3.out]; rfl, h6⟩
        · rw [decide_eq_false hro] at hb2
          have HZ3 : Hid (ExZero old root 0 [] = false) := Lib.hid (by rw [hzz, decide_eq_false hro]; simp)
          clear hzz hro hn
          go_enter Tryd.func20, Tryd.ntmps20
          go_wp2_with fail
          refine (HC.out).mono ?_
          rintro e w1 ⟨A', c', rfl, hrow, hc1, hc2, hb⟩
          have hleaf := (hb.block _ (by simp)).trans HLEAF.out
          have hlt := lt_of_block hleaf
          have hbb := (HB0.out.trans (hb.mono (by simp)))
          have hall : Below w1.heap.size w1 (w1.alloc (.cells #[.slice A' 0 c'] 47)) := (Below.refl _ _).alloc (Nat.le_refl _) _
          have hcall := proper_any A' c' [] (w1.alloc (.cells #[.slice A' 0 c'] 47)) (Kd.C_below (rowIs_C hrow HL.out) hall)
          rw [HP.out] at hcall
          have HCALL := Lib.hid hcall
          have HFIRST := Lib.hid (fun w2 hb2 => exAt_first w w1 w2 old A' c' [] hrow hc1 hc2 hleaf hbb hlt hb2 HT.out)
          clear hb hrow hall hcall hleaf hbb
          go_wp2_with fail
          refine (HCALL.out).mono ?_
          rintro e w2 ⟨rfl, hb2⟩
          have hex := HFIRST.out w2 hb2
          have cob : w2.cell? ⟨w.heap.size, 0, none⟩ = some (.string old) := exAt_cell hex
          have hp2c := proper2_any old root w2
          rw [HP2.out] at hp2c
          have HPC := Lib.hid hp2c
          have HEX := Lib.hid hex
          clear hb2 hp2c hex
          go_wp2_with fail
          refine (HPC.out).mono ?_
          rintro e w3 ⟨rfl, hb3⟩
          have hex3 := exAt_below HEX.out hb3
          have cob3 : w3.cell? ⟨w.heap.size, 0, none⟩ = some (.string old) := exAt_cell hex3
          have cob3d : w3.drew.cell? ⟨w.heap.size, 0, none⟩ = some (.string old) := cob3
          have hexd : ExAt w w3.drew old w1.heap.size [] := exAt_below hex3 ((Below.refl _ _).drew)
          have hrn : ∀ W, Tabs W → Calls Tryd.prog 15 #[.slice none 0 0] W fun e w' => e = .returned (.string em) ∧ Below W.heap.size W w' := by
            rw [← HEM.out]; exact root_nil
          have HRN := Lib.hid hrn
          have HTW := Lib.hid (show Tabs w3.drew from hexd.choose_spec.choose_spec.2.2.2.2.2.2.2)
          have HEXD := Lib.hid hexd
          clear hb3 hex3 hrn cob hexd
          go_wp2
          refine start_ (n := 18) (S := fun w' => w'.cell? ⟨w.heap.size, 0, none⟩ = some (.string old)) (ds := []) #[false, false, false, false, false, false, false, false, false, false, false, false, false, false, false, false, false, false] (by kernel_rfl) rfl rfl (cob3d) (fun hHeld => ?_)
          refine pure_ (i := 0) (N := some 43) (v := ?_) (a' := ?_) #[true, false, false, false, false, false, false, false, false, false, false, false, false, false, false, false, false, false] rfl rfl (by kernel_rfl) (fun _ _ _ h => h) (Or.inl ⟨by rfl, ?_⟩) ?_ ?_
          rotate_left
          · intro w'
            go_simp
            with_reducible rfl
          rotate_left
          · simp only [Act.put, List.setIfInBounds_toArray, List.set_cons_zero, List.set_cons_succ, i64_w, i32_w]
            rfl
          refine pure_ (i := 1) (N := some 44) (v := ?_) (a' := ?_) #[true, true, false, false, false, false, false, false, false, false, false, false, false, false, false, false, false, false] rfl rfl (by kernel_rfl) (fun _ _ _ h => h) (Or.inl ⟨by rfl, ?_⟩) ?_ ?_
          rotate_left
          · intro w'
            go_simp
            with_reducible rfl
          rotate_left
          · simp only [Act.put, List.setIfInBounds_toArray, List.set_cons_zero, List.set_cons_succ, i64_w, i32_w]
            rfl
          refine pure_ (i := 2) (N := some 45) (v := ?_) (a' := ?_) #[true, true, true, false, false, false, false, false, false, false, false, false, false, false, false, false, false, false] rfl rfl (by kernel_rfl) (fun _ _ _ h => h) (Or.inl ⟨by rfl, ?_⟩) ?_ ?_
          rotate_left
          · intro w'
            go_simp
            with_reducible rfl
          rotate_left
          · simp only [Act.put, List.setIfInBounds_toArray, List.set_cons_zero, List.set_cons_succ, i64_w, i32_w]
            rfl
          refine pure_ (i := 3) (N := some 46) (v := ?_) (a' := ?_) #[true, true, true, true, false, false, false, false, false, false, false, false, false, false, false, false, false, false] rfl rfl (by kernel_rfl) (fun _ _ _ h => h) (Or.inl ⟨by rfl, ?_⟩) ?_ ?_
          rotate_left
          · intro w'
            go_simp
            with_reducible rfl
          rotate_left
          · simp only [Act.put, List.setIfInBounds_toArray, List.set_cons_zero, List.set_cons_succ, i64_w, i32_w]
            rfl
          refine take_ (i := 4) (N := some 47) (v := ?_) (a' := ?_) #[true, true, true, true, true, false, false, false, false, false, false, false, false, false, false, false, false, false] rfl rfl (by kernel_rfl) (fun _ _ _ h => h) (Or.inl ⟨by rfl, ?_⟩) hHeld ?_ ?_
          rotate_left
          · intro w' hSw
            go_simp
            with_reducible rfl
          rotate_left
          · simp only [Act.put, List.setIfInBounds_toArray, List.set_cons_zero, List.set_cons_succ, i64_w, i32_w]
            rfl
          refine one_ (i := 5) (N := some 48) #[true, true, true, true, true, true, false, false, false, false, false, false, false, false, false, false, false, false] rfl rfl (by kernel_rfl) (by decide) (fun K hK => ?_)
          refine goes_ Tryd.func15 (by kernel_rfl) rfl #[.slice none 0 0] (by rfl) rfl rfl (by (try simp only [List.map_toArray, List.map_cons, List.map_nil]); first | done | rfl) ?_
          with_reducible refine (HRN.out _ HTW.out).mono ?_
          rintro e w4 ⟨rfl, hb4⟩
          refine ⟨_, rfl, ?_⟩
          have hex4 := exAt_below HEXD.out hb4
          have HEX4 := Lib.hid hex4
          have cob4 : w4.cell? ⟨w.heap.size, 0, none⟩ = some (.string old) := exAt_cell hex4
          clear hex4 hb4
          refine hK.out _ _ (cob4) (fun hHeld => ?_)
          clear hK K
          refine norm_ (a' := ?_) ?_ ?_
          rotate_left
          · show Act.put _ (some 48) _ = _
            simp only [Act.put, List.setIfInBounds_toArray, List.set_cons_zero, List.set_cons_succ, i64_w, i32_w]
            rfl
          refine pure_ (i := 6) (N := some 49) (v := ?_) (a' := ?_) #[true, true, true, true, true, true, true, false, false, false, false, false, false, false, false, false, false, false] rfl rfl (by kernel_rfl) (fun _ _ _ h => h) (Or.inl ⟨by rfl, ?_⟩) ?_ ?_
          rotate_left
          · intro w'
            go_simp
            with_reducible rfl
          rotate_left
          · simp only [Act.put, List.setIfInBounds_toArray, List.set_cons_zero, List.set_cons_succ, i64_w, i32_w]
            rfl
          refine pure_ (i := 7) (N := some 50) (v := ?_) (a' := ?_) #[true, true, true, true, true, true, true, true, false, false, false, false, false, false, false, false, false, false] rfl rfl (by kernel_rfl) (fun _ _ _ h => h) (Or.inl ⟨by rfl, ?_⟩) ?_ ?_
          rotate_left
          · intro w'
            go_simp
            with_reducible rfl
          rotate_left
          · simp only [Act.put, List.setIfInBounds_toArray, List.set_cons_zero, List.set_cons_succ, i64_w, i32_w]
            rfl
          refine pure_ (i := 8) (N := some 51) (v := ?_) (a' := ?_) #[true, true, true, true, true, true, true, true, true, false, false, false, false, false, false, false, false, false] rfl rfl (by kernel_rfl) (fun _ _ _ h => h) (Or.inl ⟨by rfl, ?_⟩) ?_ ?_
          rotate_left
          · intro w'
            go_simp
            with_reducible rfl
          rotate_left
          · simp only [Act.put, List.setIfInBounds_toArray, List.set_cons_zero, List.set_cons_succ, i64_w, i32_w]
            rfl
          refine pure_ (i := 9) (N := some 52) (v := ?_) (a' := ?_) #[true, true, true, true, true, true, true, true, true, true, false, false, false, false, false, false, false, false] rfl rfl (by kernel_rfl) (fun _ _ _ h => h) (Or.inl ⟨by rfl, ?_⟩) ?_ ?_
          rotate_left
          · intro w'
            go_simp
            with_reducible rfl
          rotate_left
          · simp only [Act.put, List.setIfInBounds_toArray, List.set_cons_zero, List.set_cons_succ, i64_w, i32_w]
            rfl
          refine pure_ (i := 10) (N := some 53) (v := ?_) (a' := ?_) #[true, true, true, true, true, true, true, true, true, true, true, false, false, false, false, false, false, false] rfl rfl (by kernel_rfl) (fun _ _ _ h => h) (Or.inl ⟨by rfl, ?_⟩) ?_ ?_
          rotate_left
          · intro w'
            go_simp
            with_reducible rfl
          rotate_left
          · simp only [Act.put, List.setIfInBounds_toArray, List.set_cons_zero, List.set_cons_succ, i64_w, i32_w]
            rfl
          refine pure_ (i := 11) (N := some 54) (v := ?_) (a' := ?_) #[true, true, true, true, true, true, true, true, true, true, true, true, false, false, false, false, false, false] rfl rfl (by kernel_rfl) (fun _ _ _ h => h) (Or.inl ⟨by rfl, ?_⟩) ?_ ?_
          rotate_left
          · intro w'
            go_simp
            with_reducible rfl
          rotate_left
          · simp only [Act.put, List.setIfInBounds_toArray, List.set_cons_zero, List.set_cons_succ, i64_w, i32_w]
            rfl
          refine pure_ (i := 12) (N := some 55) (v := ?_) (a' := ?_) #[true, true, true, true, true, true, true, true, true, true, true, true, true, false, false, false, false, false] rfl rfl (by kernel_rfl) (fun _ _ _ h => h) (Or.inl ⟨by rfl, ?_⟩) ?_ ?_
          rotate_left
          · intro w'
            go_simp
            with_reducible rfl
          rotate_left
          · simp only [Act.put, List.setIfInBounds_toArray, List.set_cons_zero, List.set_cons_succ, i64_w, i32_w]
            rfl
          refine take_ (i := 13) (N := some 56) (v := ?_) (a' := ?_) #[true, true, true, true, true, true, true, true, true, true, true, true, true, true, false, false, false, false] rfl rfl (by kernel_rfl) (fun _ _ _ h => h) (Or.inl ⟨by rfl, ?_⟩) hHeld ?_ ?_
          rotate_left
          · intro w' hSw
            go_simp
            with_reducible rfl
          rotate_left
          · simp only [Act.put, List.setIfInBounds_toArray, List.set_cons_zero, List.set_cons_succ, i64_w, i32_w]
            rfl
          refine pure_ (i := 14) (N := some 57) (v := ?_) (a' := ?_) #[true, true, true, true, true, true, true, true, true, true, true, true, true, true, true, false, false, false] rfl rfl (by kernel_rfl) (fun _ _ _ h => h) (Or.inl ⟨by rfl, ?_⟩) ?_ ?_
          rotate_left
          · intro w'
            go_simp
            with_reducible rfl
          rotate_left
          · simp only [Act.put, List.setIfInBounds_toArray, List.set_cons_zero, List.set_cons_succ, i64_w, i32_w]
            rfl
          refine pure_ (i := 15) (N := some 58) (v := ?_) (a' := ?_) #[true, true, true, true, true, true, true, true, true, true, true, true, true, true, true, true, false, false] rfl rfl (by kernel_rfl) (fun _ _ _ h => h) (Or.inl ⟨by rfl, ?_⟩) ?_ ?_
          rotate_left
          · intro w'
            go_simp
            with_reducible rfl
          rotate_left
          · simp only [Act.put, List.setIfInBounds_toArray, List.set_cons_zero, List.set_cons_succ, i64_w, i32_w]
            rfl
          refine pure_ (i := 16) (N := some 59) (v := ?_) (a' := ?_) #[true, true, true, true, true, true, true, true, true, true, true, true, true, true, true, true, true, false] rfl rfl (by kernel_rfl) (fun _ _ _ h => h) (Or.inl ⟨by rfl, ?_⟩) ?_ ?_
          rotate_left
          · intro w'
            go_simp
            with_reducible rfl
          rotate_left
          · simp only [Act.put, List.setIfInBounds_toArray, List.set_cons_zero, List.set_cons_succ, i64_w, i32_w]
            rfl
          refine pure_ (i := 17) (N := some 10) (v := ?_) (a' := ?_) #[true, true, true, true, true, true, true, true, true, true, true, true, true, true, true, true, true, true] rfl rfl (by kernel_rfl) (fun _ _ _ h => h) (Or.inl ⟨by rfl, ?_⟩) ?_ ?_
          rotate_left
          · intro w'
            go_simp
            with_reducible rfl
          rotate_left
          · simp only [Act.put, List.setIfInBounds_toArray, List.set_cons_zero, List.set_cons_succ, i64_w, i32_w]
            rfl
          refine done_ (by kernel_rfl) ?_
          go_wp2
          go_ret
          obtain ⟨_, _, _, _, _, _, _, h6, _⟩ := HEX4.out
          exact ⟨by rw [HZ3.out]; rfl, h6⟩
    · rw [decide_eq_false ho] at hb1
      rw [decide_eq_false ho] at hzz
      have HZ3 : Hid (ExZero old root n [] = false) := Lib.hid (by rw [hzz]; rfl)
      clear hzz ho hl0
      generalize he : Tr.empty = em at hb1
      have HEM := Lib.hid he
      clear he
      go_enter Tryd.func20, Tryd.ntmps20
      go_wp2_with fail
      refine (HC.out).mono ?_
      rintro e w1 ⟨A', c', rfl, hrow, hc1, hc2, hb⟩
      have hleaf := (hb.block _ (by simp)).trans HLEAF.out
      have hlt := lt_of_block hleaf
      have hbb := (HB0.out.trans (hb.mono (by simp)))
      have hall : Below w1.heap.size w1 (w1.alloc (.cells #[.slice A' 0 c'] 47)) := (Below.refl _ _).alloc (Nat.le_refl _) _
      have hcall := proper_any A' c' [] (w1.alloc (.cells #[.slice A' 0 c'] 47)) (Kd.C_below (rowIs_C hrow HL.out) hall)
      rw [HP.out] at hcall
      have HCALL := Lib.hid hcall
      have HFIRST := Lib.hid (fun w2 hb2 => exAt_first w w1 w2 old A' c' [] hrow hc1 hc2 hleaf hbb hlt hb2 HT.out)
      clear hb hrow hall hcall hleaf hbb
      go_wp2_with fail
      refine (HCALL.out).mono ?_
      rintro e w2 ⟨rfl, hb2⟩
      have hex := HFIRST.out w2 hb2
      have cob : w2.cell? ⟨w.heap.size, 0, none⟩ = some (.string old) := exAt_cell hex
      have hp2c := proper2_any old root w2
      rw [HP2.out] at hp2c
      have HPC := Lib.hid hp2c
      have HEX := Lib.hid hex
      clear hb2 hp2c hex
      go_wp2_with fail
      refine (HPC.out).mono ?_
      rintro e w3 ⟨rfl, hb3⟩
      have hex3 := exAt_below HEX.out hb3
      have cob3 : w3.cell? ⟨w.heap.size, 0, none⟩ = some (.string old) := exAt_cell hex3
      have cob3d : w3.drew.cell? ⟨w.heap.size, 0, none⟩ = some (.string old) := cob3
      have hexd : ExAt w w3.drew old w1.heap.size [] := exAt_below hex3 ((Below.refl _ _).drew)
      have hrn : ∀ W, Tabs W → Calls Tryd.prog 15 #[.slice none 0 0] W fun e w' => e = .returned (.string em) ∧ Below W.heap.size W w' := by
        rw [← HEM.out]; exact root_nil
      have HRN := Lib.hid hrn
      have HTW := Lib.hid (show Tabs w3.drew from hexd.choose_spec.choose_spec.2.2.2.2.2.2.2)
      have HEXD := Lib.hid hexd
      clear hb3 hex3 hrn cob hexd
      go_wp2
      refine start_ (n := 18) (S := fun w' => w'.cell? ⟨w.heap.size, 0, none⟩ = some (.string old)) (ds := []) #[false, false, false, false, false, false, false, false, false, false, false, false, false, false, false, false, false, false] (by kernel_rfl) rfl rfl (cob3d) (fun hHeld => ?_)
      refine pure_ (i := 0) (N := some 43) (v := ?_) (a' := ?_) #[true, false, false, false, false, false, false, false, false, false, false, false, false, false, false, false, false, false] rfl rfl (by kernel_rfl) (fun _ _ _ h => h) (Or.inl ⟨by rfl, ?_⟩) ?_ ?_
      rotate_left
      · intro w'
        go_simp
        with_reducible rfl
      rotate_left
      · simp only [Act.put, List.setIfInBounds_toArray, List.set_cons_zero, List.set_cons_succ, i64_w, i32_w]
        rfl
      refine pure_ (i := 1) (N := some 44) (v := ?_) (a' := ?_) #[true, true, false, false, false, false, false, false, false, false, false, false, false, false, false, false, false, false] rfl rfl (by kernel_rfl) (fun _ _ _ h => h) (Or.inl ⟨by rfl, ?_⟩) ?_ ?_
      rotate_left
      · intro w'
        go_simp
        with_reducible rfl
      rotate_left
      · simp only [Act.put, List.setIfInBounds_toArray, List.set_cons_zero, List.set_cons_succ, i64_w, i32_w]
        rfl
      refine pure_ (i := 2) (N := some 45) (v := ?_) (a' := ?_) #[true, true, true, false, false, false, false, false, false, false, false, false, false, false, false, false, false, false] rfl rfl (by kernel_rfl) (fun _ _ _ h => h) (Or.inl ⟨by rfl, ?_⟩) ?_ ?_
      rotate_left
      · intro w'
        go_simp
        with_reducible rfl
      rotate_left
      · simp only [Act.put, List.setIfInBounds_toArray, List.set_cons_zero, List.set_cons_succ, i64_w, i32_w]
        rfl
      refine pure_ (i := 3) (N := some 46) (v := ?_) (a' := ?_) #[true, true, true, true, false, false, false, false, false, false, false, false, false, false, false, false, false, false] rfl rfl (by kernel_rfl) (fun _ _ _ h => h) (Or.inl ⟨by rfl, ?_⟩) ?_ ?_
      rotate_left
      · intro w'
        go_simp
        with_reducible rfl
      rotate_left
      · simp only [Act.put, List.setIfInBounds_toArray, List.set_cons_zero, List.set_cons_succ, i64_w, i32_w]
        rfl
      refine take_ (i := 4) (N := some 47) (v := ?_) (a' := ?_) #[true, true, true, true, true, false, false, false, false, false, false, false, false, false, false, false, false, false] rfl rfl (by kernel_rfl) (fun _ _ _ h => h) (Or.inl ⟨by rfl, ?_⟩) hHeld ?_ ?_
      rotate_left
      · intro w' hSw
        go_simp
        with_reducible rfl
      rotate_left
      · simp only [Act.put, List.setIfInBounds_toArray, List.set_cons_zero, List.set_cons_succ, i64_w, i32_w]
        rfl
      refine one_ (i := 5) (N := some 48) #[true, true, true, true, true, true, false, false, false, false, false, false, false, false, false, false, false, false] rfl rfl (by kernel_rfl) (by decide) (fun K hK => ?_)
      refine goes_ Tryd.func15 (by kernel_rfl) rfl #[.slice none 0 0] (by rfl) rfl rfl (by (try simp only [List.map_toArray, List.map_cons, List.map_nil]); first | done | rfl) ?_
      with_reducible refine (HRN.out _ HTW.out).mono ?_
      rintro e w4 ⟨rfl, hb4⟩
      refine ⟨_, rfl, ?_⟩
      have hex4 := exAt_below HEXD.out hb4
      have HEX4 := Lib.hid hex4
      have cob4 : w4.cell? ⟨w.heap.size, 0, none⟩ = some (.string old) := exAt_cell hex4
      clear hex4 hb4
      refine hK.out _ _ (cob4) (fun hHeld => ?_)
      clear hK K
      refine norm_ (a' := ?_) ?_ ?_
      rotate_left
      · show Act.put _ (some 48) _ = _
        simp only [Act.put, List.setIfInBounds_toArray, List.set_cons_zero, List.set_cons_succ, i64_w, i32_w]
        rfl
      refine pure_ (i := 6) (N := some 49) (v := ?_) (a' := ?_) #[true, true, true, true, true, true, true, false, false, false, false, false, false, false, false, false, false, false] rfl rfl (by kernel_rfl) (fun _ _ _ h => h) (Or.inl ⟨by rfl, ?_⟩) ?_ ?_
      rotate_left
      · intro w'
        go_simp
        with_reducible rfl
      rotate_left
      · simp only [Act.put, List.setIfInBounds_toArray, List.set_cons_zero, List.set_cons_succ, i64_w, i32_w]
        rfl
      refine pure_ (i := 7) (N := some 50) (v := ?_) (a' := ?_) #[true, true, true, true, true, true, true, true, false, false, false, false, false, false, false, false, false, false] rfl rfl (by kernel_rfl) (fun _ _ _ h => h) (Or.inl ⟨by rfl, ?_⟩) ?_ ?_
      rotate_left
      · intro w'
        go_simp
        with_reducible rfl
      rotate_left
      · simp only [Act.put, List.setIfInBounds_toArray, List.set_cons_zero, List.set_cons_succ, i64_w, i32_w]
        rfl
      refine pure_ (i := 8) (N := some 51) (v := ?_) (a' := ?_) #[true, true, true, true, true, true, true, true, true, false, false, false, false, false, false, false, false, false] rfl rfl (by kernel_rfl) (fun _ _ _ h => h) (Or.inl ⟨by rfl, ?_⟩) ?_ ?_
      rotate_left
      · intro w'
        go_simp
        with_reducible rfl
      rotate_left
      · simp only [Act.put, List.setIfInBounds_toArray, List.set_cons_zero, List.set_cons_succ, i64_w, i32_w]
        rfl
      refine pure_ (i := 9) (N := some 52) (v := undef) (a' := ?_) #[true, true, true, true, true, true, true, true, true, true, false, false, false, false, false, false, false, false] rfl rfl (by kernel_rfl) (fun _ _ _ h => h) (Or.inr ⟨by rfl, rfl⟩) ?_ ?_
      rotate_left
      · simp only [Act.put, List.setIfInBounds_toArray, List.set_cons_zero, List.set_cons_succ, i64_w, i32_w]
        rfl
      refine pure_ (i := 10) (N := some 53) (v := undef) (a' := ?_) #[true, true, true, true, true, true, true, true, true, true, true, false, false, false, false, false, false, false] rfl rfl (by kernel_rfl) (fun _ _ _ h => h) (Or.inr ⟨by rfl, rfl⟩) ?_ ?_
      rotate_left
      · simp only [Act.put, List.setIfInBounds_toArray, List.set_cons_zero, List.set_cons_succ, i64_w, i32_w]
        rfl
      refine pure_ (i := 11) (N := some 54) (v := undef) (a' := ?_) #[true, true, true, true, true, true, true, true, true, true, true, true, false, false, false, false, false, false] rfl rfl (by kernel_rfl) (fun _ _ _ h => h) (Or.inr ⟨by rfl, rfl⟩) ?_ ?_
      rotate_left
      · simp only [Act.put, List.setIfInBounds_toArray, List.set_cons_zero, List.set_cons_succ, i64_w, i32_w]
        rfl
      refine pure_ (i := 12) (N := some 55) (v := undef) (a' := ?_) #[true, true, true, true, true, true, true, true, true, true, true, true, true, false, false, false, false, false] rfl rfl (by kernel_rfl) (fun _ _ _ h => h) (Or.inr ⟨by rfl, rfl⟩) ?_ ?_
      rotate_left
      · simp only [Act.put, List.setIfInBounds_toArray, List.set_cons_zero, List.set_cons_succ, i64_w, i32_w]
        rfl
      refine pure_ (i := 13) (N := some 56) (v := undef) (a' := ?_) #[true, true, true, true, true, true, true, true, true, true, true, true, true, true, false, false, false, false] rfl rfl (by kernel_rfl) (fun _ _ _ h => h) (Or.inr ⟨by rfl, rfl⟩) ?_ ?_
      rotate_left
      · simp only [Act.put, List.setIfInBounds_toArray, List.set_cons_zero, List.set_cons_succ, i64_w, i32_w]
        rfl
      refine pure_ (i := 14) (N := some 57) (v := undef) (a' := ?_) #[true, true, true, true, true, true, true, true, true, true, true, true, true, true, true, false, false, false] rfl rfl (by kernel_rfl) (fun _ _ _ h => h) (Or.inr ⟨by rfl, rfl⟩) ?_ ?_
      rotate_left
      · simp only [Act.put, List.setIfInBounds_toArray, List.set_cons_zero, List.set_cons_succ, i64_w, i32_w]
        rfl
      refine pure_ (i := 15) (N := some 58) (v := undef) (a' := ?_) #[true, true, true, true, true, true, true, true, true, true, true, true, true, true, true, true, false, false] rfl rfl (by kernel_rfl) (fun _ _ _ h => h) (Or.inr ⟨by rfl, rfl⟩) ?_ ?_
      rotate_left
      · simp only [Act.put, List.setIfInBounds_toArray, List.set_cons_zero, List.set_cons_succ, i64_w, i32_w]
        rfl
      refine pure_ (i := 16) (N := some 59) (v := ?_) (a' := ?_) #[true, true, true, true, true, true, true, true, true, true, true, true, true, true, true, true, true, false] rfl rfl (by kernel_rfl) (fun _ _ _ h => h) (Or.inl ⟨by rfl, ?_⟩) ?_ ?_
      rotate_left
      · intro w'
        go_simp
        with_reducible rfl
      rotate_left
      · simp only [Act.put, List.setIfInBounds_toArray, List.set_cons_zero, List.set_cons_succ, i64_w, i32_w]
        rfl
      refine pure_ (i := 17) (N := some 10) (v := ?_) (a' := ?_) #[true, true, true, true, true, true, true, true, true, true, true, true, true, true, true, true, true, true] rfl rfl (by kernel_rfl) (fun _ _ _ h => h) (Or.inl ⟨by rfl, ?_⟩) ?_ ?_
      rotate_left
      · intro w'
        go_simp
        with_reducible rfl
      rotate_left
      · simp only [Act.put, List.setIfInBounds_toArray, List.set_cons_zero, List.set_cons_succ, i64_w, i32_w]
        rfl
      refine done_ (by kernel_rfl) ?_
      go_wp2
      go_ret
      obtain ⟨_, _, _, _, _, _, _, h6, _⟩ := HEX4.out
      exact ⟨by rw [HZ3.out]; rfl, h6⟩
end Go.Proofs.YteofiiggnegnkaaDoor.P
/- tree.Extends: the walk of the link and the contract. -/
namespace Go.Proofs.YteofiiggnegnkaaDoor.P
open Go.RowKit Go.Proofs.YteofiiggnegnkaaDoor Go.Proofs.YteofiiggnegnkaaDoorW.PrintWords Go.Proofs.YteofiiggnegnkaaDoorW.PrintLast Go.Proofs.YteofiiggnegnkaaDoorW.PrintMore
set_option linter.unusedVariables false
set_option linter.unusedSimpArgs false

set_option maxHeartbeats 8000000 in
set_option maxRecDepth 100000 in
/-- Extends, where the link is walked. -/
theorem extends_walk (old : ByteArray) (m : Nat) (root : ByteArray) (n : Nat) (A : Option Addr) (c : Nat) (l : List ByteArray) (w : World) (hr : Kd.C Kd.string w A l.length l) (hbig : l.length * 16 ≤ 140737488355328) (hT : Tabs w)
    (h1 : 1 ≤ m) (h2 : m ≤ n) (h3 : n ≤ 1000000) (hp : Tr.proper l = true) (hp2 : Tr.proper [old, root] = true) :
    Calls Tryd.prog 20 #[.string old, .int .i64 (m : Int), .string root, .int .i64 (n : Int), .slice A l.length c] w fun e w' =>
      e = .returned (.bool (decide ((Tr.exBoth n n m true old l false).1.1 = old) && (decide ((Tr.exBoth n n m true old l false).1.2 = root) && (!(Tr.exBoth n n m true old l false).2.2 && (Tr.exBoth n n m true old l false).2.1.length == 0)))) ∧ Below w.heap.size w w' := by
  have hb0 : Below w.heap.size w (w.alloc (.cells #[.string old] 9)) := (Below.refl _ _).alloc (Nat.le_refl _) _
  have HC := Lib.hid (clone_any A c l _ (Kd.C_below hr hb0) hbig)
  have HB0 := Lib.hid hb0
  have HL := Lib.hid hr.2.1
  have HP := Lib.hid hp
  have HP2 := Lib.hid hp2
  have HLE := Lib.hid (proper_le l hp)
  have HOL := Lib.hid (proper_le _ hp2 old (by simp))
  have HT := Lib.hid hT
  have HLEAF := Lib.hid (heap_alloc_new w (.cells #[.string old] 9))
  clear hr hb0 hp hp2 hT
  generalize hr : Tr.exBoth n n m true old l false = r
  have HR := Lib.hid hr
  clear hr
  have hb1 := toList_eq_iff r.1.1 old
  have hb2 := toList_eq_iff r.1.2 root
  by_cases ha : r.1.1 = old
  · rw [decide_eq_true ha] at hb1
    have HDA := Lib.hid (decide_eq_true ha)
    clear ha
    by_cases hb : r.1.2 = root
    · rw [decide_eq_true hb] at hb2
      have HDB := Lib.hid (decide_eq_true hb)
      clear hb
      go_enter Tryd.func20, Tryd.ntmps20
      go_wp2_with fail
      refine (HC.out).mono ?_
      rintro e w1 ⟨A', c', rfl, hrow, hc1, hc2, hb⟩
      have hleaf := (hb.block _ (by simp)).trans HLEAF.out
      have hlt := lt_of_block hleaf
      have hbb := (HB0.out.trans (hb.mono (by simp)))
      have hall : Below w1.heap.size w1 (w1.alloc (.cells #[.slice A' l.length c'] 47)) := (Below.refl _ _).alloc (Nat.le_refl _) _
      have hcall := proper_any A' c' l (w1.alloc (.cells #[.slice A' l.length c'] 47)) (Kd.C_below (rowIs_C hrow HL.out) hall)
      rw [HP.out] at hcall
      have HCALL := Lib.hid hcall
      have HFIRST := Lib.hid (fun w2 hb2 => exAt_first w w1 w2 old A' c' l hrow hc1 hc2 hleaf hbb hlt hb2 HT.out)
      clear hb hrow hall hcall hleaf hbb
      go_wp2_with fail
      refine (HCALL.out).mono ?_
      rintro e w2 ⟨rfl, hb2⟩
      have hex := HFIRST.out w2 hb2
      have cob : w2.cell? ⟨w.heap.size, 0, none⟩ = some (.string old) := exAt_cell hex
      have hp2c := proper2_any old root w2
      rw [HP2.out] at hp2c
      have HPC := Lib.hid hp2c
      have HEX := Lib.hid hex
      clear hb2 hp2c hex
      go_wp2_with fail
      refine (HPC.out).mono ?_
      rintro e w3 ⟨rfl, hb3⟩
      have hst := extends_state w w3 old w1.heap.size l (exAt_below HEX.out hb3) _ rfl
      obtain ⟨hps, hen, hta, hbe, hle, hle2⟩ := hst
      have hsz4 := hbe.size
      have hup := both_any old HOL.out w.heap.size (w3.heap.size + 1) (w3.heap.size + 1 + 1) w3.heap.size w1.heap.size w.heap.size hle hle2 n n m true l false _ (Nat.le_refl _) h1 h2 h3 HLE.out hps hen hta hsz4
      rw [HR.out] at hup
      have HUP := Lib.hid hup
      have HPS := Lib.hid hps
      have HEN := Lib.hid hen
      have HBE := Lib.hid hbe
      clear hup hps hen hta hbe hle hle2 hsz4 hb3 cob
      go_wp2_with fail
      refine (HUP.out).mono ?_
      rintro e w5 ⟨rfl, hp5, hm5⟩
      have hen5 := ExEnv.moved HEN.out HPS.out hm5
      have c5 := cell_of_one hen5.2.1
      have co5 := cell_of_one hen5.1
      have HD := Lib.hid (done_any _ _ _ _ w5 hp5)
      have HB5 := Lib.hid (HBE.out.trans hm5.1)
      clear hen5 hp5 hm5 HBE HEN HPS HUP
      go_wp2_with fail
      refine (HD.out).mono ?_
      rintro e w6 ⟨rfl, rfl⟩
      go_wp2
      go_ret
      exact ⟨by rw [HDA.out, HDB.out]; simp, HB5.out⟩
    · rw [decide_eq_false hb] at hb2
      have HDB := Lib.hid (decide_eq_false hb)
      clear hb
      go_enter Tryd.func20, Tryd.ntmps20
      go_wp2_with fail
      refine (HC.out).mono ?_
      rintro e w1 ⟨A', c', rfl, hrow, hc1, hc2, hb⟩
      have hleaf := (hb.block _ (by simp)).trans HLEAF.out
      have hlt := lt_of_block hleaf
      have hbb := (HB0.out.trans (hb.mono (by simp)))
      have hall : Below w1.heap.size w1 (w1.alloc (.cells #[.slice A' l.length c'] 47)) := (Below.refl _ _).alloc (Nat.le_refl _) _
      have hcall := proper_any A' c' l (w1.alloc (.cells #[.slice A' l.length c'] 47)) (Kd.C_below (rowIs_C hrow HL.out) hall)
      rw [HP.out] at hcall
      have HCALL := Lib.hid hcall
      have HFIRST := Lib.hid (fun w2 hb2 => exAt_first w w1 w2 old A' c' l hrow hc1 hc2 hleaf hbb hlt hb2 HT.out)
      clear hb hrow hall hcall hleaf hbb
      go_wp2_with fail
      refine (HCALL.out).mono ?_
      rintro e w2 ⟨rfl, hb2⟩
      have hex := HFIRST.out w2 hb2
      have cob : w2.cell? ⟨w.heap.size, 0, none⟩ = some (.string old) := exAt_cell hex
      have hp2c := proper2_any old root w2
      rw [HP2.out] at hp2c
      have HPC := Lib.hid hp2c
      have HEX := Lib.hid hex
      clear hb2 hp2c hex
      go_wp2_with fail
      refine (HPC.out).mono ?_
      rintro e w3 ⟨rfl, hb3⟩
      have hst := extends_state w w3 old w1.heap.size l (exAt_below HEX.out hb3) _ rfl
      obtain ⟨hps, hen, hta, hbe, hle, hle2⟩ := hst
      have hsz4 := hbe.size
      have hup := both_any old HOL.out w.heap.size (w3.heap.size + 1) (w3.heap.size + 1 + 1) w3.heap.size w1.heap.size w.heap.size hle hle2 n n m true l false _ (Nat.le_refl _) h1 h2 h3 HLE.out hps hen hta hsz4
      rw [HR.out] at hup
      have HUP := Lib.hid hup
      have HPS := Lib.hid hps
      have HEN := Lib.hid hen
      have HBE := Lib.hid hbe
      clear hup hps hen hta hbe hle hle2 hsz4 hb3 cob
      go_wp2_with fail
      refine (HUP.out).mono ?_
      rintro e w5 ⟨rfl, hp5, hm5⟩
      have hen5 := ExEnv.moved HEN.out HPS.out hm5
      have c5 := cell_of_one hen5.2.1
      have co5 := cell_of_one hen5.1
      have HD := Lib.hid (done_any _ _ _ _ w5 hp5)
      have HB5 := Lib.hid (HBE.out.trans hm5.1)
      clear hen5 hp5 hm5 HBE HEN HPS HUP
      go_wp2
      go_ret
      exact ⟨by rw [HDA.out, HDB.out]; simp, HB5.out⟩
  · rw [decide_eq_false ha] at hb1
    have HDA := Lib.hid (decide_eq_false ha)
    clear ha
    go_enter Tryd.func20, Tryd.ntmps20
    go_wp2_with fail
    refine (HC.out).mono ?_
    rintro e w1 ⟨A', c', rfl, hrow, hc1, hc2, hb⟩
    have hleaf := (hb.block _ (by simp)).trans HLEAF.out
    have hlt := lt_of_block hleaf
    have hbb := (HB0.out.trans (hb.mono (by simp)))
    have hall : Below w1.heap.size w1 (w1.alloc (.cells #[.slice A' l.length c'] 47)) := (Below.refl _ _).alloc (Nat.le_refl _) _
    have hcall := proper_any A' c' l (w1.alloc (.cells #[.slice A' l.length c'] 47)) (Kd.C_below (rowIs_C hrow HL.out) hall)
    rw [HP.out] at hcall
    have HCALL := Lib.hid hcall
    have HFIRST := Lib.hid (fun w2 hb2 => exAt_first w w1 w2 old A' c' l hrow hc1 hc2 hleaf hbb hlt hb2 HT.out)
    clear hb hrow hall hcall hleaf hbb
    go_wp2_with fail
    refine (HCALL.out).mono ?_
    rintro e w2 ⟨rfl, hb2⟩
    have hex := HFIRST.out w2 hb2
    have cob : w2.cell? ⟨w.heap.size, 0, none⟩ = some (.string old) := exAt_cell hex
    have hp2c := proper2_any old root w2
    rw [HP2.out] at hp2c
    have HPC := Lib.hid hp2c
    have HEX := Lib.hid hex
    clear hb2 hp2c hex
    go_wp2_with fail
    refine (HPC.out).mono ?_
    rintro e w3 ⟨rfl, hb3⟩
    have hst := extends_state w w3 old w1.heap.size l (exAt_below HEX.out hb3) _ rfl
    obtain ⟨hps, hen, hta, hbe, hle, hle2⟩ := hst
    have hsz4 := hbe.size
    have hup := both_any old HOL.out w.heap.size (w3.heap.size + 1) (w3.heap.size + 1 + 1) w3.heap.size w1.heap.size w.heap.size hle hle2 n n m true l false _ (Nat.le_refl _) h1 h2 h3 HLE.out hps hen hta hsz4
    rw [HR.out] at hup
    have HUP := Lib.hid hup
    have HPS := Lib.hid hps
    have HEN := Lib.hid hen
    have HBE := Lib.hid hbe
    clear hup hps hen hta hbe hle hle2 hsz4 hb3 cob
    go_wp2_with fail
    refine (HUP.out).mono ?_
    rintro e w5 ⟨rfl, hp5, hm5⟩
    have hen5 := ExEnv.moved HEN.out HPS.out hm5
    have c5 := cell_of_one hen5.2.1
    have co5 := cell_of_one hen5.1
    have HD := Lib.hid (done_any _ _ _ _ w5 hp5)
    have HB5 := Lib.hid (HBE.out.trans hm5.1)
    clear hen5 hp5 hm5 HBE HEN HPS HUP
    go_wp2
    go_ret
    exact ⟨by rw [HDA.out]; simp, HB5.out⟩

def tree_Extends.f (a0 : ByteArray) (a1 : Int) (a2 : ByteArray) (a3 : Int) (l4 : List ByteArray) : Option Bool :=
  if l4.length * 16 ≤ 140737488355328 then some (Tr.extends_ a0 a1 a2 a3 l4) else none
theorem tree_Extends.calls (a0 : ByteArray) (a1 : Int) (a2 : ByteArray) (a3 : Int) (A4 : Option Addr) (c4 : Nat) (l4 : List ByteArray) (r : Bool) (w : World) (hr4 : Kd.C Kd.string w A4 l4.length l4) (hc4 : l4.length ≤ c4) (hT : Tabs w) (h : tree_Extends.f a0 a1 a2 a3 l4 = some r) :
    Calls Tryd.prog 20 #[.string a0, .int .i64 a1, .string a2, .int .i64 a3, .slice A4 l4.length c4] w fun e w' => e = .returned (.bool r) ∧ Below w.heap.size w w' := by
  unfold tree_Extends.f at h
  split at h
  · rename_i hg
    cases h
    unfold Tr.extends_
    by_cases hr : a1 < 0 ∨ a1 > a3 ∨ a3 > 1000000
    · rw [if_pos (by rcases hr with h | h | h <;> simp [h])]
      exact extends_range a0 a1 a2 a3 A4 c4 l4 w hr4 hg hr
    · have h1 : 0 ≤ a1 := by omega
      have h2 : a1 ≤ a3 := by omega
      have h3 : a3 ≤ 1000000 := by omega
      cases hp : Tr.proper l4 with
      | false =>
        rw [if_pos (by simp)]
        exact extends_improper a0 a1 a2 a3 A4 c4 l4 w hr4 hg h1 h2 h3 hp
      | true =>
        cases hp2 : Tr.proper [a0, a2] with
        | false =>
          rw [if_pos (by simp)]
          exact extends_roots a0 a1 a2 a3 A4 c4 l4 w hr4 hg h1 h2 h3 hp hp2
        | true =>
          rw [if_neg (by simp; omega)]
          obtain ⟨n, rfl⟩ := Int.eq_ofNat_of_zero_le (show 0 ≤ a3 by omega)
          obtain ⟨m, rfl⟩ := Int.eq_ofNat_of_zero_le h1
          by_cases hm : m = 0
          · subst hm
            rw [if_pos (show ((0 : Nat) : Int) = 0 from rfl)]
            exact extends_zero a0 a2 n A4 c4 l4 w hr4 hg hT (by omega) (by omega) hp hp2
          · rw [if_neg (by omega)]
            exact extends_walk a0 m a2 n A4 c4 l4 w hr4 hg hT (by omega) (by omega) (by omega) hp hp2
  · cases h
end Go.Proofs.YteofiiggnegnkaaDoor.P
