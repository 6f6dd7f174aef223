import Derived.Test.YtoimnllcniefoaaDoorKPx0
import Derived.Test.YtoimnllcniefoaaDoorKPx2
import Derived.Test.YtoimnllcniefoaaDoorKPx4
import Derived.Test.YtoimnllcniefoaaDoorKPx5
import Derived.Test.YtoimnllcniefoaaDoorKPx6
import Derived.Test.YtoimnllcniefoaaDoorKD
import Derived.Test.YtoimnllcniefoaaDoorKTa
import Derived.Test.YtoimnllcniefoaaDoorKVa
set_option linter.unusedVariables false
set_option linter.unusedSimpArgs false
/- Words for the head of the votes' statements: votes in blocks, lists of votes written out, the closure that asks whether a bill is carried. -/
namespace Go.Proofs.YtoimnllcniefoaaDoor.P
open Go.RowKit Go.Proofs.YtoimnllcniefoaaDoor Go.Proofs.YtoimnllcniefoaaDoorW.PrintWords Go.Proofs.YtoimnllcniefoaaDoorW.PrintLast Go.Proofs.YtoimnllcniefoaaDoorW.PrintMore
set_option linter.unusedVariables false
set_option linter.unusedSimpArgs false

theorem flat_at (sz : Nat) : ∀ (css : List (List Value)), (∀ c ∈ css, c.length = sz) → ∀ (j : Nat) (h : j < css.length) (i : Nat), i < sz → css.flatten[j * sz + i]? = css[j][i]? := by
  intro css
  induction css with
  | nil => intro _ j h; exact absurd h (by simp)
  | cons c css ih =>
    intro hl j h i hi
    have hc : c.length = sz := hl c (List.mem_cons_self ..)
    rw [List.flatten_cons]
    cases j with
    | zero => rw [Nat.zero_mul, Nat.zero_add, List.getElem?_append_left (by omega)]; rfl
    | succ j =>
      have e : (j + 1) * sz + i = (j * sz + i) + c.length := by rw [hc, Nat.succ_mul]; omega
      rw [e, List.getElem?_append_right (by omega), Nat.add_sub_cancel]
      exact ih (fun c hc => hl c (List.mem_cons_of_mem _ hc)) j (by simpa using h) i hi

/-- A list written out, in its block. -/
theorem C_lit {α : Type} {d : Kd α} {W : World} {b : Nat} {T : TypeId} (ps : List α) (css : List (List Value)) (hl : css.length = ps.length) (hn : ps.length ≤ 9223372036854775807) (hk : ∀ (j : Nat) (h : j < ps.length), d.K W ps[j] (css[j]'(by omega))) (h : W.heap[b]? = some (.cells css.flatten.toArray T (0, 0))) : d.C W (some ⟨b, 0, none⟩) ps.length ps := by
  refine ⟨rfl, hn, fun _ => ⟨_, rfl, fun j p hp => ?_⟩⟩
  obtain ⟨hj, rfl⟩ := List.getElem?_eq_some_iff.1 hp
  have hK := hk j hj
  refine ⟨css[j]'(by omega), d.K_len hK, hK, fun i u hu => ?_⟩
  have hlen : ∀ c ∈ css, c.length = d.sz := by
    intro c hc
    obtain ⟨q, hq, rfl⟩ := List.getElem_of_mem hc
    exact d.K_len (hk q (by omega))
  have hi : i < d.sz := by
    have := (List.getElem?_eq_some_iff.1 hu).1
    rw [d.K_len hK] at this
    exact this
  have ha : (⟨b, 0, none⟩ : Addr).add (j * d.sz + i) = ⟨b, j * d.sz + i, none⟩ := by unfold Addr.add; split <;> simp_all
  rw [ha, blk_cell h, List.getElem?_toArray, flat_at d.sz css hlen j (by omega) i hi]
  exact hu

/-- A vote's own rows. -/
structure VoteIs (x : Vo.V) (A5 : Option Addr) (c5 : Nat) (A6 : Option Addr) (c6 : Nat) (W : World) : Prop where
  l5 : x.f4.f1.length ≤ c5
  r5 : Kd.string.C W A5 x.f4.f1.length x.f4.f1
  l6 : x.f4.f2.length ≤ c6
  r6 : Kd.string.C W A6 x.f4.f2.length x.f4.f2
/-- A vote in its block. -/
structure VoteAt (g : Nat) (x : Vo.V) (A5 : Option Addr) (c5 : Nat) (A6 : Option Addr) (c6 : Nat) (W : World) : Prop where
  blk : W.heap[g]? = some (.cells #[.int .i64 x.f0, .string x.f1, .int .i64 x.f2, .bool x.f3, .int .i64 x.f4.f0, .slice A5 x.f4.f1.length c5, .slice A6 x.f4.f2.length c6] 33 (0, 0))
  is : VoteIs x A5 c5 A6 c6 W
def VC (W : World) (g : Nat) (x : Vo.V) (A5 : Option Addr) (c5 : Nat) (A6 : Option Addr) (c6 : Nat) : Prop :=
  W.cell? ⟨g, 0, none⟩ = some (.int .i64 x.f0) ∧ W.cell? ⟨g, 1, none⟩ = some (.string x.f1) ∧ W.cell? ⟨g, 2, none⟩ = some (.int .i64 x.f2) ∧ W.cell? ⟨g, 3, none⟩ = some (.bool x.f3) ∧ W.cell? ⟨g, 4, none⟩ = some (.int .i64 x.f4.f0) ∧ W.cell? ⟨g, 5, none⟩ = some (.slice A5 x.f4.f1.length c5) ∧ W.cell? ⟨g, 6, none⟩ = some (.slice A6 x.f4.f2.length c6)
section
variable {g : Nat} {x : Vo.V} {A5 : Option Addr} {c5 : Nat} {A6 : Option Addr} {c6 : Nat} {W W1 : World}
theorem VoteIs.step (h : VoteIs x A5 c5 A6 c6 W) (hb : Below W.heap.size W W1) : VoteIs x A5 c5 A6 c6 W1 := ⟨h.l5, Kd.C_below h.r5 hb, h.l6, Kd.C_below h.r6 hb⟩
theorem VoteAt.step (h : VoteAt g x A5 c5 A6 c6 W) (hb : Below W.heap.size W W1) : VoteAt g x A5 c5 A6 c6 W1 := ⟨blk_below h.blk hb, h.is.step hb⟩
theorem VoteAt.cells (h : VoteAt g x A5 c5 A6 c6 W) : VC W g x A5 c5 A6 c6 :=
  ⟨(blk_cell h.blk 0).trans rfl, (blk_cell h.blk 1).trans rfl, (blk_cell h.blk 2).trans rfl, (blk_cell h.blk 3).trans rfl, (blk_cell h.blk 4).trans rfl, (blk_cell h.blk 5).trans rfl, (blk_cell h.blk 6).trans rfl⟩
theorem VoteIs.k (h : VoteIs x A5 c5 A6 c6 W) : k33.K W x [.int .i64 x.f0, .string x.f1, .int .i64 x.f2, .bool x.f3, .int .i64 x.f4.f0, .slice A5 x.f4.f1.length c5, .slice A6 x.f4.f2.length c6] := k33_mk W x h.l5 h.r5 h.l6 h.r6
end

/-- The roll in its block. -/
structure RollAt (g : Nat) (ch : Int) (A1 : Option Addr) (c1 : Nat) (l1 : List ByteArray) (q num den : Int) (W : World) : Prop where
  blk : W.heap[g]? = some (.cells #[.int .i64 ch, .slice A1 l1.length c1, .int .i64 q, .int .i64 num, .int .i64 den] 24 (0, 0))
  ln : l1.length ≤ c1
  r1 : Kd.string.C W A1 l1.length l1
section
variable {g : Nat} {ch : Int} {A1 : Option Addr} {c1 : Nat} {l1 : List ByteArray} {q num den : Int} {W W1 : World}
theorem RollAt.step (h : RollAt g ch A1 c1 l1 q num den W) (hb : Below W.heap.size W W1) : RollAt g ch A1 c1 l1 q num den W1 := ⟨blk_below h.blk hb, h.ln, Kd.C_below h.r1 hb⟩
theorem RollAt.cells (h : RollAt g ch A1 c1 l1 q num den W) : W.cell? ⟨g, 0, none⟩ = some (.int .i64 ch) ∧ W.cell? ⟨g, 1, none⟩ = some (.slice A1 l1.length c1) ∧ W.cell? ⟨g, 2, none⟩ = some (.int .i64 q) ∧ W.cell? ⟨g, 3, none⟩ = some (.int .i64 num) ∧ W.cell? ⟨g, 4, none⟩ = some (.int .i64 den) :=
  ⟨(blk_cell h.blk 0).trans rfl, (blk_cell h.blk 1).trans rfl, (blk_cell h.blk 2).trans rfl, (blk_cell h.blk 3).trans rfl, (blk_cell h.blk 4).trans rfl⟩
end

def wBill : ByteArray := ⟨#[48, 49, 50, 51, 52, 53, 54, 55, 56, 57, 97, 98, 99, 100, 101, 102]⟩
def toV (t : Int × ByteArray × Int × Bool × Int × List ByteArray × List ByteArray) : Vo.V := ⟨t.1, t.2.1, t.2.2.1, t.2.2.2.1, ⟨t.2.2.2.2.1, t.2.2.2.2.2.1, t.2.2.2.2.2.2⟩⟩
def signedV (k : Nat) (a0 a1 : Int) (a2 : Bool) : Option Vo.V := (pandectlaw39_signed.f k a0 a1 a2).map toV

theorem signed_any (k : Nat) (a0 a1 : Int) (a2 : Bool) (x : Vo.V) (W : World) (hT : Tabs W) (h : signedV k a0 a1 a2 = some x) :
    Calls Tryd.prog 24 #[.int .i64 a0, .int .i64 a1, .bool a2] W fun e w' => ∃ A5 c5 A6 c6, e = .returned (.agg #[.int .i64 x.f0, .string x.f1, .int .i64 x.f2, .bool x.f3, .int .i64 x.f4.f0, .slice A5 x.f4.f1.length c5, .slice A6 x.f4.f2.length c6]) ∧ VoteIs x A5 c5 A6 c6 w' ∧ Below W.heap.size W w' := by
  obtain ⟨⟨r1, r2, r3, r4, r5, r6, r7⟩, hr, rfl⟩ := Option.map_eq_some_iff.1 h
  refine (pandectlaw39_signed.calls k a0 a1 a2 r1 r2 r3 r4 r5 r6 r7 W hT hr).mono ?_
  rintro e w' ⟨v5, v6, rfl, h5, h6, hb⟩
  obtain ⟨A5, c5, rfl, l5, g5⟩ := Kd.R_reads h5
  obtain ⟨A6, c6, rfl, l6, g6⟩ := Kd.R_reads h6
  exact ⟨A5, c5, A6, c6, rfl, ⟨l5, g5, l6, g6⟩, hb⟩

theorem roll_any (k : Nat) (ch : Int) (l1 : List ByteArray) (q num den : Int) (W : World) (hT : Tabs W) (h : pandectlaw39_roll.f k = some (ch, l1, q, num, den)) :
    Calls Tryd.prog 22 #[] W fun e w' => ∃ A1 c1, e = .returned (.agg #[.int .i64 ch, .slice A1 l1.length c1, .int .i64 q, .int .i64 num, .int .i64 den]) ∧ l1.length ≤ c1 ∧ Kd.string.C w' A1 l1.length l1 ∧ Below W.heap.size W w' := by
  refine (pandectlaw39_roll.calls k ch l1 q num den W hT h).mono ?_
  rintro e w' ⟨v1, rfl, h1, hb⟩
  obtain ⟨A1, c1, rfl, g1, h1⟩ := Kd.R_reads h1
  exact ⟨A1, c1, rfl, g1, h1, hb⟩

set_option maxHeartbeats 2000000 in
theorem cert_any (k : Nat) (g : Nat) (ch : Int) (A1 : Option Addr) (c1 : Nat) (l1 : List ByteArray) (q num den : Int) (A : Option Addr) (c : Nat) (l : List Vo.V) (r : Int) (w : World) (hro : RollAt g ch A1 c1 l1 q num den w) (hr : Kd.C k33 w A l.length l) (hc : l.length ≤ c) (hT : Tabs w) (h : vote_Carried.f k ch l1 q num den 1 wBill l = some r) :
    Calls Tryd.prog 23 #[.slice A l.length c, .pointer (some ⟨g, 0, none⟩)] w fun e w' => e = .returned (.int .i64 r) ∧ Below w.heap.size w w' := by
  have HC := Lib.hid (vote_Carried.calls k ch A1 c1 l1 q num den 1 wBill A c l r w hro.r1 hro.ln hr hc hT h)
  obtain ⟨q0, q1, q2, q3, q4⟩ := hro.cells
  clear hro hr hT h
  go_enter Tryd.func23, Tryd.ntmps23
  go_wp2_with fail
  refine HC.out.mono ?_
  rintro e w' ⟨rfl, hb⟩
  go_wp2
  go_ret
  exact ⟨rfl, hb⟩

theorem size_one (W : World) (o1 : Obj) : (W.alloc o1).heap.size = W.heap.size + 1 := by simp
theorem blk_one (W : World) (o1 o2 : Obj) : ((W.alloc o1).alloc o2).heap[W.heap.size + 1]? = some o2 := by
  have := blk_new (W.alloc o1) o2
  rwa [size_one] at this
theorem blk_two (W : World) (o1 o2 o3 : Obj) : (((W.alloc o1).alloc o2).alloc o3).heap[W.heap.size + 1 + 1]? = some o3 := by
  have := blk_one (W.alloc o1) o2 o3
  rwa [size_one] at this
theorem VoteIs.no {x : Vo.V} {A5 : Option Addr} {c5 : Nat} {A6 : Option Addr} {c6 : Nat} {W : World} (h : VoteIs x A5 c5 A6 c6 W) : VoteIs ⟨x.f0, x.f1, x.f2, false, x.f4⟩ A5 c5 A6 c6 W := ⟨h.l5, h.r5, h.l6, h.r6⟩
theorem ints2 (W : World) (a b : Int) : Kd.C (Kd.int .i64) (W.alloc (.cells #[.int .i64 a, .int .i64 b] 3)) (some ⟨W.heap.size, 0, none⟩) 2 [a, b] :=
  C_lit [a, b] [[.int .i64 a], [.int .i64 b]] rfl (by simp) (by
    intro j hj
    have hj' : j < 2 := hj
    by_cases e0 : j = 0
    · subst e0; rfl
    · by_cases e1 : j = 1
      · subst e1; rfl
      · exfalso; omega) (blk_new W _)

/-- A call of a closure, by the function's contract. -/
theorem goesC_ {P : Program} {ops : Array Oper} {Q : Exit → Act → World → Prop} {oi : Oper} {N : Option Tmp} {a : Act} {w : World} {K : Act → World → Prop} {f : FuncId} {fn : Func} {q : Tmp} {ags : Array Operand} {ts : Array TypeId} (hf : P.funcs[f]? = some fn) (hname : (fn.name == "runtime.NumGoroutine") = false) (hb : fn.body.isSome = true) (args cap : Array Value)
    (hw : Region.wanted oi (yielded ops a.tmps) = true) (hN : oi.dst = N) (hop : oi.op = .call { callee := .value (.tmp q), args := ags, argTypes := ts }) (hq : a.eval (.tmp q) = .func (.func f) #[] cap) (hargs : ags.map a.eval = args)
    (h : Calls P f (args ++ cap) w fun e w' => ∃ v, e = .returned v ∧ K (a.put N v) w') : if Region.wanted oi (yielded ops a.tmps) = true then Oper.wp P oi a w K Q else K (a.put N undef) w := by
  refine call_ f (args ++ cap) hw hN ?_ h
  have he := enters_ hf hname hb (args ++ cap) w
  unfold execOp
  simp [hop, resolve, hq, Deferred.ofValue, invoke, hargs, he]
end Go.Proofs.YtoimnllcniefoaaDoor.P
/- The head of the votes' statements. -/
namespace Go.Proofs.YtoimnllcniefoaaDoor.P
open Go.RowKit Go.Proofs.YtoimnllcniefoaaDoor Go.Proofs.YtoimnllcniefoaaDoorW.PrintWords Go.Proofs.YtoimnllcniefoaaDoorW.PrintLast Go.Proofs.YtoimnllcniefoaaDoorW.PrintMore
set_option linter.unusedVariables false
set_option linter.unusedSimpArgs false

def noOf (x : Vo.V) : Vo.V := ⟨x.f0, x.f1, x.f2, false, x.f4⟩
def headEnd (k : Nat) (e1 e2 e3 e4 : Int) (n : Int × Int × List Int) : Option Bool :=
  if e1 = 12 ∧ e2 = 0 ∧ e3 = 20 ∧ e4 = 0 ∧ n.1 = 2 ∧ n.2.1 = 1 then pandectref39_Ints.f k n.2.2 [1, 2] else none
def headRest (k : Nat) (ch : Int) (l1 : List ByteArray) (q num den : Int) (a b c o b1 : Vo.V) : Option Bool :=
  (vote_Count.f k ch l1 q num den wBill [a, o, noOf b, b, c]).bind fun n => (vote_Carried.f k ch l1 q num den 1 wBill [a, b1]).bind fun e1 => (vote_Carried.f k ch l1 q num den 1 wBill [a, b, c]).bind fun e2 =>
    (vote_Carried.f k ch l1 q num den 1 wBill [a, a]).bind fun e3 => (vote_Carried.f k ch l1 q num den 1 wBill [a, o, b]).bind fun e4 => headEnd k e1 e2 e3 e4 n
def pandectlaw39_head.f (k : Nat) : Option Bool :=
  (pandectlaw39_roll.f k).bind fun ro => (signedV k 0 0 true).bind fun a => (signedV k 1 0 true).bind fun b => (signedV k 2 0 false).bind fun c => (signedV k 0 1 false).bind fun o => (signedV k 1 1 false).bind fun b1 =>
    headRest k ro.1 ro.2.1 ro.2.2.1 ro.2.2.2.1 ro.2.2.2.2 a b c o b1

set_option maxHeartbeats 8000000 in
set_option maxRecDepth 100000 in
theorem pandectlaw39_head.calls (k : Nat) (r : Bool) (w : World) (hT : Tabs w) (h : pandectlaw39_head.f k = some r) :
    Calls Tryd.prog 9 #[] w fun e w' => e = .returned (.bool r) ∧ Below w.heap.size w w' := by
  unfold pandectlaw39_head.f at h
  obtain ⟨⟨ch, l1, q, num, den⟩, h1, ha⟩ := Option.bind_eq_some_iff.1 h
  obtain ⟨a, h2, hb⟩ := Option.bind_eq_some_iff.1 ha
  obtain ⟨b, h3, hc⟩ := Option.bind_eq_some_iff.1 hb
  obtain ⟨c, h4, hd⟩ := Option.bind_eq_some_iff.1 hc
  obtain ⟨o, h5, he⟩ := Option.bind_eq_some_iff.1 hd
  obtain ⟨b1, h6, hf⟩ := Option.bind_eq_some_iff.1 he
  clear h ha hb hc hd he
  dsimp only at hf
  unfold headRest at hf
  obtain ⟨⟨n1, n2, n3⟩, g1, ha⟩ := Option.bind_eq_some_iff.1 hf
  obtain ⟨e1, g2, hb⟩ := Option.bind_eq_some_iff.1 ha
  obtain ⟨e2, g3, hc⟩ := Option.bind_eq_some_iff.1 hb
  obtain ⟨e3, g4, hd⟩ := Option.bind_eq_some_iff.1 hc
  obtain ⟨e4, g5, he⟩ := Option.bind_eq_some_iff.1 hd
  clear hf ha hb hc hd
  unfold headEnd at he
  split at he
  case isFalse => cases he
  rename_i hg
  obtain ⟨rfl, rfl, rfl, rfl, hy, hn⟩ := hg
  dsimp only at hy hn he
  subst hy
  subst hn
  have HT := Lib.hid hT
  have H1 := Lib.hid h1
  have H2 := Lib.hid h2
  have H3 := Lib.hid h3
  have H4 := Lib.hid h4
  have H5 := Lib.hid h5
  have H6 := Lib.hid h6
  have G1 := Lib.hid g1
  have G2 := Lib.hid g2
  have G3 := Lib.hid g3
  have G4 := Lib.hid g4
  have G5 := Lib.hid g5
  have HE := Lib.hid he
  clear hT h1 h2 h3 h4 h5 h6 g1 g2 g3 g4 g5 he
  go_enter Tryd.func9, Tryd.ntmps9
  go_wp2_with fail
  refine (roll_any k ch l1 q num den _ HT.out H1.out).mono ?_
  rintro e w1 ⟨A1, c1, rfl, gl1, gr1, hb⟩
  have HRO := RollAt.mk (q := q) (num := num) (den := den) (ch := ch) (blk_new w1 (.cells #[.int .i64 ch, .slice A1 l1.length c1, .int .i64 q, .int .i64 num, .int .i64 den] 24)) gl1 (Kd.C_below gr1 (upB (Below.refl _ _)))
  have HB := below_alloc hb (.cells #[.int .i64 ch, .slice A1 l1.length c1, .int .i64 q, .int .i64 num, .int .i64 den] 24)
  replace HRO := Lib.hid HRO
  replace HB := Lib.hid HB
  clear hb gl1 gr1
  go_wp2_with fail
  generalize w1.heap.size = rb at HRO ⊢
  generalize w1.alloc _ = w2 at HB HRO ⊢
  refine (signed_any k 0 0 true a _ (tabs_below HT.out HB.out) H2.out).mono ?_
  rintro e w3 ⟨A5a, c5a, A6a, c6a, rfl, hv, hb⟩
  replace HRO := Lib.hid (HRO.out.step hb)
  replace HB := Lib.hid (below_step HB.out hb)
  have HIa := Lib.hid hv
  clear hv hb
  go_wp2_with fail
  refine (signed_any k 1 0 true b _ (tabs_below HT.out HB.out) H3.out).mono ?_
  rintro e w4 ⟨A5b, c5b, A6b, c6b, rfl, hv, hb⟩
  replace HRO := Lib.hid (HRO.out.step hb)
  replace HIa := Lib.hid (HIa.out.step hb)
  replace HB := Lib.hid (below_step HB.out hb)
  have HIb := Lib.hid hv
  clear hv hb
  go_wp2_with fail
  refine (signed_any k 2 0 false c _ (tabs_below HT.out HB.out) H4.out).mono ?_
  rintro e w5 ⟨A5c, c5c, A6c, c6c, rfl, hv, hb⟩
  replace HRO := Lib.hid (HRO.out.step hb)
  replace HIa := Lib.hid (HIa.out.step hb)
  replace HIb := Lib.hid (HIb.out.step hb)
  replace HB := Lib.hid (below_step HB.out hb)
  have HIc := Lib.hid hv
  clear hv hb
  go_wp2_with fail
  have hup : Below w5.heap.size w5 (((w5.alloc (.cells #[.int .i64 a.f0, .string a.f1, .int .i64 a.f2, .bool a.f3, .int .i64 a.f4.f0, .slice A5a a.f4.f1.length c5a, .slice A6a a.f4.f2.length c6a] 33)).alloc (.cells #[.int .i64 b.f0, .string b.f1, .int .i64 b.f2, .bool b.f3, .int .i64 b.f4.f0, .slice A5b b.f4.f1.length c5b, .slice A6b b.f4.f2.length c6b] 33)).alloc (.cells #[.int .i64 c.f0, .string c.f1, .int .i64 c.f2, .bool c.f3, .int .i64 c.f4.f0, .slice A5c c.f4.f1.length c5c, .slice A6c c.f4.f2.length c6c] 33)) := upB (Below.refl _ _)
  have k1 : (((w5.alloc (.cells #[.int .i64 a.f0, .string a.f1, .int .i64 a.f2, .bool a.f3, .int .i64 a.f4.f0, .slice A5a a.f4.f1.length c5a, .slice A6a a.f4.f2.length c6a] 33)).alloc (.cells #[.int .i64 b.f0, .string b.f1, .int .i64 b.f2, .bool b.f3, .int .i64 b.f4.f0, .slice A5b b.f4.f1.length c5b, .slice A6b b.f4.f2.length c6b] 33)).alloc (.cells #[.int .i64 c.f0, .string c.f1, .int .i64 c.f2, .bool c.f3, .int .i64 c.f4.f0, .slice A5c c.f4.f1.length c5c, .slice A6c c.f4.f2.length c6c] 33)).heap[w5.heap.size]? = some (.cells #[.int .i64 a.f0, .string a.f1, .int .i64 a.f2, .bool a.f3, .int .i64 a.f4.f0, .slice A5a a.f4.f1.length c5a, .slice A6a a.f4.f2.length c6a] 33) := blk_below (blk_new w5 _) (upB (Below.refl _ _))
  have k2 : (((w5.alloc (.cells #[.int .i64 a.f0, .string a.f1, .int .i64 a.f2, .bool a.f3, .int .i64 a.f4.f0, .slice A5a a.f4.f1.length c5a, .slice A6a a.f4.f2.length c6a] 33)).alloc (.cells #[.int .i64 b.f0, .string b.f1, .int .i64 b.f2, .bool b.f3, .int .i64 b.f4.f0, .slice A5b b.f4.f1.length c5b, .slice A6b b.f4.f2.length c6b] 33)).alloc (.cells #[.int .i64 c.f0, .string c.f1, .int .i64 c.f2, .bool c.f3, .int .i64 c.f4.f0, .slice A5c c.f4.f1.length c5c, .slice A6c c.f4.f2.length c6c] 33)).heap[w5.heap.size + 1]? = some (.cells #[.int .i64 b.f0, .string b.f1, .int .i64 b.f2, .bool b.f3, .int .i64 b.f4.f0, .slice A5b b.f4.f1.length c5b, .slice A6b b.f4.f2.length c6b] 33) := blk_below (blk_one w5 (.cells #[.int .i64 a.f0, .string a.f1, .int .i64 a.f2, .bool a.f3, .int .i64 a.f4.f0, .slice A5a a.f4.f1.length c5a, .slice A6a a.f4.f2.length c6a] 33) (.cells #[.int .i64 b.f0, .string b.f1, .int .i64 b.f2, .bool b.f3, .int .i64 b.f4.f0, .slice A5b b.f4.f1.length c5b, .slice A6b b.f4.f2.length c6b] 33)) (upB (Below.refl _ _))
  have k3 : (((w5.alloc (.cells #[.int .i64 a.f0, .string a.f1, .int .i64 a.f2, .bool a.f3, .int .i64 a.f4.f0, .slice A5a a.f4.f1.length c5a, .slice A6a a.f4.f2.length c6a] 33)).alloc (.cells #[.int .i64 b.f0, .string b.f1, .int .i64 b.f2, .bool b.f3, .int .i64 b.f4.f0, .slice A5b b.f4.f1.length c5b, .slice A6b b.f4.f2.length c6b] 33)).alloc (.cells #[.int .i64 c.f0, .string c.f1, .int .i64 c.f2, .bool c.f3, .int .i64 c.f4.f0, .slice A5c c.f4.f1.length c5c, .slice A6c c.f4.f2.length c6c] 33)).heap[w5.heap.size + 1 + 1]? = some (.cells #[.int .i64 c.f0, .string c.f1, .int .i64 c.f2, .bool c.f3, .int .i64 c.f4.f0, .slice A5c c.f4.f1.length c5c, .slice A6c c.f4.f2.length c6c] 33) := blk_two w5 _ _ _
  replace HRO := Lib.hid (HRO.out.step hup)
  replace HIa := Lib.hid (HIa.out.step hup)
  replace HIb := Lib.hid (HIb.out.step hup)
  replace HIc := Lib.hid (HIc.out.step hup)
  replace HB := Lib.hid (below_step HB.out hup)
  have HVa := Lib.hid (VoteAt.mk (x := a) k1 HIa.out)
  have HVb := Lib.hid (VoteAt.mk (x := b) k2 HIb.out)
  have HVc := Lib.hid (VoteAt.mk (x := c) k3 HIc.out)
  clear k1 k2 k3 hup HIa HIb HIc
  generalize w5.heap.size + 1 + 1 = gc at HVc ⊢
  generalize w5.heap.size + 1 = gb at HVb ⊢
  generalize w5.heap.size = ga at HVa ⊢
  generalize World.alloc (World.alloc (World.alloc w5 _) _) _ = w6 at HB HRO HVa HVb HVc ⊢
  refine (signed_any k 0 1 false o _ (tabs_below HT.out HB.out) H5.out).mono ?_
  rintro e w7 ⟨A5o, c5o, A6o, c6o, rfl, hv, hb⟩
  replace HRO := Lib.hid (HRO.out.step hb)
  replace HVa := Lib.hid (HVa.out.step hb)
  replace HVb := Lib.hid (HVb.out.step hb)
  replace HVc := Lib.hid (HVc.out.step hb)
  replace HB := Lib.hid (below_step HB.out hb)
  have HIo := Lib.hid hv
  clear hv hb
  go_upto_region 5 with fail
  have hup : Below w7.heap.size w7 (w7.alloc (.cells #[.int .i64 o.f0, .string o.f1, .int .i64 o.f2, .bool o.f3, .int .i64 o.f4.f0, .slice A5o o.f4.f1.length c5o, .slice A6o o.f4.f2.length c6o] 33)) := upB (Below.refl _ _)
  have k1 := blk_new w7 (.cells #[.int .i64 o.f0, .string o.f1, .int .i64 o.f2, .bool o.f3, .int .i64 o.f4.f0, .slice A5o o.f4.f1.length c5o, .slice A6o o.f4.f2.length c6o] 33)
  replace HRO := Lib.hid (HRO.out.step hup)
  replace HVa := Lib.hid (HVa.out.step hup)
  replace HVb := Lib.hid (HVb.out.step hup)
  replace HVc := Lib.hid (HVc.out.step hup)
  replace HIo := Lib.hid (HIo.out.step hup)
  replace HB := Lib.hid (below_step HB.out hup)
  have HVo := Lib.hid (VoteAt.mk (x := o) k1 HIo.out)
  clear k1 hup HIo
  generalize w7.alloc _ = w8 at HB HRO HVa HVb HVc HVo ⊢
  generalize w7.heap.size = go at HVo ⊢
  have hcb := HVb.out.cells
  obtain ⟨q0, q1, q2, q3, q4, q5, q6⟩ := hcb
  go_upto_region 6 with fail
  clear q0 q1 q2 q3 q4 q5 q6
  have hnf := blk_new w8 (.cells #[.int .i64 b.f0, .string b.f1, .int .i64 b.f2, .bool b.f3, .int .i64 b.f4.f0, .slice A5b b.f4.f1.length c5b, .slice A6b b.f4.f2.length c6b] 33)
  have f3 := blk_frozen hnf 3
  have r3 : (w8.alloc (.cells #[.int .i64 b.f0, .string b.f1, .int .i64 b.f2, .bool b.f3, .int .i64 b.f4.f0, .slice A5b b.f4.f1.length c5b, .slice A6b b.f4.f2.length c6b] 33)).cell? ⟨w8.heap.size, 3, none⟩ = some (.bool b.f3) := (blk_cell hnf 3).trans rfl
  go_upto_region 7 with fail
  clear f3 r3
  have hup : Below w8.heap.size w8 (w8.alloc (.cells #[.int .i64 b.f0, .string b.f1, .int .i64 b.f2, .bool false, .int .i64 b.f4.f0, .slice A5b b.f4.f1.length c5b, .slice A6b b.f4.f2.length c6b] 33)) := upB (Below.refl _ _)
  have k1 := blk_new w8 (.cells #[.int .i64 b.f0, .string b.f1, .int .i64 b.f2, .bool false, .int .i64 b.f4.f0, .slice A5b b.f4.f1.length c5b, .slice A6b b.f4.f2.length c6b] 33)
  have HVf := Lib.hid (VoteAt.mk (x := noOf b) (g := w8.heap.size) k1 ((HVb.out.step hup).is.no))
  replace HRO := Lib.hid (HRO.out.step hup)
  replace HVa := Lib.hid (HVa.out.step hup)
  replace HVb := Lib.hid (HVb.out.step hup)
  replace HVc := Lib.hid (HVc.out.step hup)
  replace HVo := Lib.hid (HVo.out.step hup)
  replace HB := Lib.hid (below_step HB.out hup)
  clear k1 hup hnf
  generalize w8.alloc _ = w9 at HB HRO HVa HVb HVc HVo HVf ⊢
  generalize w8.heap.size = gf at HVf ⊢
  obtain ⟨qa0, qa1, qa2, qa3, qa4, qa5, qa6⟩ := HVa.out.cells
  obtain ⟨qb0, qb1, qb2, qb3, qb4, qb5, qb6⟩ := HVb.out.cells
  obtain ⟨qc0, qc1, qc2, qc3, qc4, qc5, qc6⟩ := HVc.out.cells
  obtain ⟨qo0, qo1, qo2, qo3, qo4, qo5, qo6⟩ := HVo.out.cells
  obtain ⟨qf0, qf1, qf2, qf3, qf4, qf5, qf6⟩ := HVf.out.cells
  obtain ⟨q0, q1, q2, q3, q4⟩ := HRO.out.cells
  go_wp2_with fail
  clear q0 q1 q2 q3 q4 qa0 qa1 qa2 qa3 qa4 qa5 qa6 qb0 qb1 qb2 qb3 qb4 qb5 qb6 qc0 qc1 qc2 qc3 qc4 qc5 qc6 qo0 qo1 qo2 qo3 qo4 qo5 qo6 qf0 qf1 qf2 qf3 qf4 qf5 qf6
  have hup : Below w9.heap.size w9 (w9.alloc (.cells (List.toArray ((Value.int .i64 a.f0) :: (Value.string a.f1) :: (Value.int .i64 a.f2) :: (Value.bool a.f3) :: (Value.int .i64 a.f4.f0) :: (Value.slice A5a a.f4.f1.length c5a) :: (Value.slice A6a a.f4.f2.length c6a) :: (Value.int .i64 o.f0) :: (Value.string o.f1) :: (Value.int .i64 o.f2) :: (Value.bool o.f3) :: (Value.int .i64 o.f4.f0) :: (Value.slice A5o o.f4.f1.length c5o) :: (Value.slice A6o o.f4.f2.length c6o) :: (Value.int .i64 (noOf b).f0) :: (Value.string (noOf b).f1) :: (Value.int .i64 (noOf b).f2) :: (Value.bool (noOf b).f3) :: (Value.int .i64 (noOf b).f4.f0) :: (Value.slice A5b (noOf b).f4.f1.length c5b) :: (Value.slice A6b (noOf b).f4.f2.length c6b) :: (Value.int .i64 b.f0) :: (Value.string b.f1) :: (Value.int .i64 b.f2) :: (Value.bool b.f3) :: (Value.int .i64 b.f4.f0) :: (Value.slice A5b b.f4.f1.length c5b) :: (Value.slice A6b b.f4.f2.length c6b) :: (Value.int .i64 c.f0) :: (Value.string c.f1) :: (Value.int .i64 c.f2) :: (Value.bool c.f3) :: (Value.int .i64 c.f4.f0) :: (Value.slice A5c c.f4.f1.length c5c) :: (Value.slice A6c c.f4.f2.length c6c) :: [])) 33)) := upB (Below.refl _ _)
  have HL : Kd.C k33 (w9.alloc (.cells (List.toArray ((Value.int .i64 a.f0) :: (Value.string a.f1) :: (Value.int .i64 a.f2) :: (Value.bool a.f3) :: (Value.int .i64 a.f4.f0) :: (Value.slice A5a a.f4.f1.length c5a) :: (Value.slice A6a a.f4.f2.length c6a) :: (Value.int .i64 o.f0) :: (Value.string o.f1) :: (Value.int .i64 o.f2) :: (Value.bool o.f3) :: (Value.int .i64 o.f4.f0) :: (Value.slice A5o o.f4.f1.length c5o) :: (Value.slice A6o o.f4.f2.length c6o) :: (Value.int .i64 (noOf b).f0) :: (Value.string (noOf b).f1) :: (Value.int .i64 (noOf b).f2) :: (Value.bool (noOf b).f3) :: (Value.int .i64 (noOf b).f4.f0) :: (Value.slice A5b (noOf b).f4.f1.length c5b) :: (Value.slice A6b (noOf b).f4.f2.length c6b) :: (Value.int .i64 b.f0) :: (Value.string b.f1) :: (Value.int .i64 b.f2) :: (Value.bool b.f3) :: (Value.int .i64 b.f4.f0) :: (Value.slice A5b b.f4.f1.length c5b) :: (Value.slice A6b b.f4.f2.length c6b) :: (Value.int .i64 c.f0) :: (Value.string c.f1) :: (Value.int .i64 c.f2) :: (Value.bool c.f3) :: (Value.int .i64 c.f4.f0) :: (Value.slice A5c c.f4.f1.length c5c) :: (Value.slice A6c c.f4.f2.length c6c) :: [])) 33)) (some ⟨w9.heap.size, 0, none⟩) 5 [a, o, noOf b, b, c] := C_lit [a, o, noOf b, b, c] [[.int .i64 a.f0, .string a.f1, .int .i64 a.f2, .bool a.f3, .int .i64 a.f4.f0, .slice A5a a.f4.f1.length c5a, .slice A6a a.f4.f2.length c6a], [.int .i64 o.f0, .string o.f1, .int .i64 o.f2, .bool o.f3, .int .i64 o.f4.f0, .slice A5o o.f4.f1.length c5o, .slice A6o o.f4.f2.length c6o], [.int .i64 (noOf b).f0, .string (noOf b).f1, .int .i64 (noOf b).f2, .bool (noOf b).f3, .int .i64 (noOf b).f4.f0, .slice A5b (noOf b).f4.f1.length c5b, .slice A6b (noOf b).f4.f2.length c6b], [.int .i64 b.f0, .string b.f1, .int .i64 b.f2, .bool b.f3, .int .i64 b.f4.f0, .slice A5b b.f4.f1.length c5b, .slice A6b b.f4.f2.length c6b], [.int .i64 c.f0, .string c.f1, .int .i64 c.f2, .bool c.f3, .int .i64 c.f4.f0, .slice A5c c.f4.f1.length c5c, .slice A6c c.f4.f2.length c6c]] rfl (by simp) (by
    intro j hj
    have hj' : j < 5 := hj
    by_cases e0 : j = 0
    · subst e0; exact (HVa.out.step hup).is.k
    by_cases e1 : j = 1
    · subst e1; exact (HVo.out.step hup).is.k
    by_cases e2 : j = 2
    · subst e2; exact (HVf.out.step hup).is.k
    by_cases e3 : j = 3
    · subst e3; exact (HVb.out.step hup).is.k
    by_cases e4 : j = 4
    · subst e4; exact (HVc.out.step hup).is.k
    · exfalso; omega) (blk_new w9 _)
  replace HRO := Lib.hid (HRO.out.step hup)
  replace HVa := Lib.hid (HVa.out.step hup)
  replace HVb := Lib.hid (HVb.out.step hup)
  replace HVc := Lib.hid (HVc.out.step hup)
  replace HVo := Lib.hid (HVo.out.step hup)
  replace HVf := Lib.hid (HVf.out.step hup)
  replace HB := Lib.hid (below_step HB.out hup)
  clear hup
  generalize w9.alloc _ = w10 at HB HRO HL HVa HVb HVc HVo HVf ⊢
  generalize w9.heap.size = g9 at HL ⊢
  refine (vote_Count.calls k ch A1 c1 l1 q num den wBill _ 5 _ _ _ _ _ HRO.out.r1 HRO.out.ln HL (by simp) (tabs_below HT.out HB.out) G1.out).mono ?_
  rintro e w11 ⟨v, rfl, hn, hb⟩
  replace HRO := Lib.hid (HRO.out.step hb)
  replace HVa := Lib.hid (HVa.out.step hb)
  replace HVb := Lib.hid (HVb.out.step hb)
  replace HVc := Lib.hid (HVc.out.step hb)
  replace HVo := Lib.hid (HVo.out.step hb)
  replace HVf := Lib.hid (HVf.out.step hb)
  replace HB := Lib.hid (below_step HB.out hb)
  obtain ⟨An, cn, rfl, gn, hn2⟩ := Kd.R_reads hn
  have HN := Lib.hid hn2
  clear hn hn2 hb HL
  go_wp2_with fail
  replace HRO := Lib.hid (HRO.out.step (Below.refl _ _).drew)
  replace HVa := Lib.hid (HVa.out.step (Below.refl _ _).drew)
  replace HVb := Lib.hid (HVb.out.step (Below.refl _ _).drew)
  replace HVc := Lib.hid (HVc.out.step (Below.refl _ _).drew)
  replace HVo := Lib.hid (HVo.out.step (Below.refl _ _).drew)
  replace HVf := Lib.hid (HVf.out.step (Below.refl _ _).drew)
  replace HB := Lib.hid (below_step HB.out (Below.refl _ _).drew)
  replace HN := Lib.hid (Kd.C_below HN.out (Below.refl _ _).drew)
  refine start_ (n := 32) (S := fun w' => VC w' ga a A5a c5a A6a c6a ∧ VC w' gb b A5b c5b A6b c6b ∧ VC w' gc c A5c c5c A6c c6c ∧ VC w' go o A5o c5o A6o c6o) (ds := []) #[false, false, false, false, false, false, false, false, false, false, false, false, false, false, false, false, false, false, false, false, false, false, false, false, false, false, false, false, false, false, false, false] (by kernel_rfl) rfl rfl ⟨HVa.out.cells, HVb.out.cells, HVc.out.cells, HVo.out.cells⟩ (fun hHeld => ?_)
  generalize World.drew _ = w12 at HB HRO HN HVa HVb HVc HVo HVf hHeld ⊢
  refine pure_ (i := 0) (N := some 31) (v := ?_) (a' := ?_) #[true, false, false, false, false, false, false, false, false, false, false, false, false, false, false, false, false, false, false, false, false, false, false, false, false, false, false, false, false, false, false, false] rfl rfl (by kernel_rfl) (fun _ _ _ h => h) (Or.inl ⟨by rfl, ?_⟩) ?_ ?_
  rotate_left
  · intro w'
    go_simp
    with_reducible rfl
  rotate_left
  · simp only [Act.put, List.setIfInBounds_toArray, List.set_cons_zero, List.set_cons_succ, i64_w, i32_w]
    rfl
  refine take_ (i := 1) (N := some 32) (v := ?_) (a' := ?_) #[true, true, false, false, false, false, false, false, false, false, false, false, false, false, false, false, false, false, false, false, false, false, false, false, false, false, false, false, false, false, false, false] rfl rfl (by kernel_rfl) (fun _ _ _ h => h) (Or.inl ⟨by rfl, ?_⟩) hHeld ?_ ?_
  rotate_left
  · rintro w' ⟨⟨a0_, a1_, a2_, a3_, a4_, a5_, a6_⟩, ⟨b0_, b1_, b2_, b3_, b4_, b5_, b6_⟩, ⟨c0_, c1_, c2_, c3_, c4_, c5_, c6_⟩, ⟨o0_, o1_, o2_, o3_, o4_, o5_, o6_⟩⟩
    go_simp
    with_reducible rfl
  rotate_left
  · simp only [Act.put, List.setIfInBounds_toArray, List.set_cons_zero, List.set_cons_succ, i64_w, i32_w]
    rfl
  refine one_ (i := 2) (N := some 33) #[true, true, true, false, false, false, false, false, false, false, false, false, false, false, false, false, false, false, false, false, false, false, false, false, false, false, false, false, false, false, false, false] rfl rfl (by kernel_rfl) (by decide) (fun K hK => ?_)
  refine goes_ Tryd.func24 (by kernel_rfl) rfl #[.int .i64 1, .int .i64 1, .bool false] (by rfl) rfl rfl (by (try simp only [List.map_toArray, List.map_cons, List.map_nil]); first | done | rfl) ?_
  with_reducible refine (signed_any k 1 1 false b1 _ (tabs_below HT.out HB.out) H6.out).mono ?_
  rintro e w13 ⟨A51, c51, A61, c61, rfl, hv, hb⟩
  refine ⟨_, rfl, ?_⟩
  replace HRO := Lib.hid (HRO.out.step hb)
  replace HVa := Lib.hid (HVa.out.step hb)
  replace HVb := Lib.hid (HVb.out.step hb)
  replace HVc := Lib.hid (HVc.out.step hb)
  replace HVo := Lib.hid (HVo.out.step hb)
  replace HVf := Lib.hid (HVf.out.step hb)
  replace HB := Lib.hid (below_step HB.out hb)
  replace HN := Lib.hid (Kd.C_below HN.out hb)
  have HI1 := Lib.hid hv
  clear hv hb
  refine hK.out _ _ ⟨HVa.out.cells, HVb.out.cells, HVc.out.cells, HVo.out.cells⟩ (fun hHeld => ?_)
  clear hK K
  refine norm_ (a' := ?_) ?_ ?_
  rotate_left
  · show Act.put _ (some 33) _ = _
    simp only [Act.put, List.setIfInBounds_toArray, List.set_cons_zero, List.set_cons_succ, i64_w, i32_w]
    rfl
  refine one_ (i := 3) (N := some 34) #[true, true, true, true, false, false, false, false, false, false, false, false, false, false, false, false, false, false, false, false, false, false, false, false, false, false, false, false, false, false, false, false] rfl rfl (by kernel_rfl) (by decide) (fun K hK => ?_)
  refine value_ (w1 := ?_) (v := ?_) (by rfl) rfl ?_ ?_
  rotate_left 2
  · go_simp
    constructor
    · rfl
    · rfl
  have hup : Below w13.heap.size w13 (w13.alloc (.cells (List.toArray ((Value.int .i64 a.f0) :: (Value.string a.f1) :: (Value.int .i64 a.f2) :: (Value.bool a.f3) :: (Value.int .i64 a.f4.f0) :: (Value.slice A5a a.f4.f1.length c5a) :: (Value.slice A6a a.f4.f2.length c6a) :: (Value.int .i64 b1.f0) :: (Value.string b1.f1) :: (Value.int .i64 b1.f2) :: (Value.bool b1.f3) :: (Value.int .i64 b1.f4.f0) :: (Value.slice A51 b1.f4.f1.length c51) :: (Value.slice A61 b1.f4.f2.length c61) :: [])) 33)) := upB (Below.refl _ _)
  have HL : Kd.C k33 (w13.alloc (.cells (List.toArray ((Value.int .i64 a.f0) :: (Value.string a.f1) :: (Value.int .i64 a.f2) :: (Value.bool a.f3) :: (Value.int .i64 a.f4.f0) :: (Value.slice A5a a.f4.f1.length c5a) :: (Value.slice A6a a.f4.f2.length c6a) :: (Value.int .i64 b1.f0) :: (Value.string b1.f1) :: (Value.int .i64 b1.f2) :: (Value.bool b1.f3) :: (Value.int .i64 b1.f4.f0) :: (Value.slice A51 b1.f4.f1.length c51) :: (Value.slice A61 b1.f4.f2.length c61) :: [])) 33)) (some ⟨w13.heap.size, 0, none⟩) 2 [a, b1] := C_lit [a, b1] [[.int .i64 a.f0, .string a.f1, .int .i64 a.f2, .bool a.f3, .int .i64 a.f4.f0, .slice A5a a.f4.f1.length c5a, .slice A6a a.f4.f2.length c6a], [.int .i64 b1.f0, .string b1.f1, .int .i64 b1.f2, .bool b1.f3, .int .i64 b1.f4.f0, .slice A51 b1.f4.f1.length c51, .slice A61 b1.f4.f2.length c61]] rfl (by simp) (by
    intro j hj
    have hj' : j < 2 := hj
    by_cases e0 : j = 0
    · subst e0; exact (HVa.out.step hup).is.k
    by_cases e1 : j = 1
    · subst e1; exact (HI1.out.step hup).k
    · exfalso; omega) (blk_new w13 _)
  replace HRO := Lib.hid (HRO.out.step hup)
  replace HVa := Lib.hid (HVa.out.step hup)
  replace HVb := Lib.hid (HVb.out.step hup)
  replace HVc := Lib.hid (HVc.out.step hup)
  replace HVo := Lib.hid (HVo.out.step hup)
  replace HVf := Lib.hid (HVf.out.step hup)
  replace HB := Lib.hid (below_step HB.out hup)
  replace HN := Lib.hid (Kd.C_below HN.out hup)
  clear hup
  generalize w13.alloc _ = w14 at HB HRO HN HL HVa HVb HVc HVo HVf ⊢
  generalize w13.heap.size = g13 at HL ⊢
  refine hK.out _ _ ⟨HVa.out.cells, HVb.out.cells, HVc.out.cells, HVo.out.cells⟩ (fun hHeld => ?_)
  clear hK K
  refine norm_ (a' := ?_) ?_ ?_
  rotate_left
  · show Act.put _ (some 34) _ = _
    simp only [Act.put, List.setIfInBounds_toArray, List.set_cons_zero, List.set_cons_succ, i64_w, i32_w]
    rfl
  refine one_ (i := 4) (N := some 35) #[true, true, true, true, true, false, false, false, false, false, false, false, false, false, false, false, false, false, false, false, false, false, false, false, false, false, false, false, false, false, false, false] rfl rfl (by kernel_rfl) (by decide) (fun K hK => ?_)
  refine goesC_ Tryd.func23 (by kernel_rfl) rfl #[.slice (some ⟨g13, 0, none⟩) 2 2] #[.pointer (some ⟨rb, 0, none⟩)] (by rfl) rfl rfl rfl (by (try simp only [List.map_toArray, List.map_cons, List.map_nil]); first | done | rfl) ?_
  refine (cert_any k rb ch A1 c1 l1 q num den _ 2 [a, b1] _ _ HRO.out HL (by simp) (tabs_below HT.out HB.out) G2.out).mono ?_
  rintro e w15 ⟨rfl, hb⟩
  refine ⟨_, rfl, ?_⟩
  replace HRO := Lib.hid (HRO.out.step hb)
  replace HVa := Lib.hid (HVa.out.step hb)
  replace HVb := Lib.hid (HVb.out.step hb)
  replace HVc := Lib.hid (HVc.out.step hb)
  replace HVo := Lib.hid (HVo.out.step hb)
  replace HVf := Lib.hid (HVf.out.step hb)
  replace HB := Lib.hid (below_step HB.out hb)
  replace HN := Lib.hid (Kd.C_below HN.out hb)
  clear hb HL
  refine hK.out _ _ ⟨HVa.out.cells, HVb.out.cells, HVc.out.cells, HVo.out.cells⟩ (fun hHeld => ?_)
  clear hK K
  refine norm_ (a' := ?_) ?_ ?_
  rotate_left
  · show Act.put _ (some 35) _ = _
    simp only [Act.put, List.setIfInBounds_toArray, List.set_cons_zero, List.set_cons_succ, i64_w, i32_w]
    rfl
  refine pure_ (i := 5) (N := some 36) (v := ?_) (a' := ?_) #[true, true, true, true, true, true, false, false, false, false, false, false, false, false, false, false, false, false, false, false, false, false, false, false, false, false, false, false, false, false, false, false] rfl rfl (by kernel_rfl) (fun _ _ _ h => h) (Or.inl ⟨by rfl, ?_⟩) ?_ ?_
  rotate_left
  · intro w'
    go_simp
    with_reducible rfl
  rotate_left
  · simp only [Act.put, List.setIfInBounds_toArray, List.set_cons_zero, List.set_cons_succ, i64_w, i32_w]
    rfl
  refine pure_ (i := 6) (N := some 37) (v := ?_) (a' := ?_) #[true, true, true, true, true, true, true, false, false, false, false, false, false, false, false, false, false, false, false, false, false, false, false, false, false, false, false, false, false, false, false, false] rfl rfl (by kernel_rfl) (fun _ _ _ h => h) (Or.inl ⟨by rfl, ?_⟩) ?_ ?_
  rotate_left
  · intro w'
    go_simp
    with_reducible rfl
  rotate_left
  · simp only [Act.put, List.setIfInBounds_toArray, List.set_cons_zero, List.set_cons_succ, i64_w, i32_w]
    rfl
  refine pure_ (i := 7) (N := some 38) (v := ?_) (a' := ?_) #[true, true, true, true, true, true, true, true, false, false, false, false, false, false, false, false, false, false, false, false, false, false, false, false, false, false, false, false, false, false, false, false] rfl rfl (by kernel_rfl) (fun _ _ _ h => h) (Or.inl ⟨by rfl, ?_⟩) ?_ ?_
  rotate_left
  · intro w'
    go_simp
    with_reducible rfl
  rotate_left
  · simp only [Act.put, List.setIfInBounds_toArray, List.set_cons_zero, List.set_cons_succ, i64_w, i32_w]
    rfl
  refine take_ (i := 8) (N := some 39) (v := ?_) (a' := ?_) #[true, true, true, true, true, true, true, true, true, false, false, false, false, false, false, false, false, false, false, false, false, false, false, false, false, false, false, false, false, false, false, false] rfl rfl (by kernel_rfl) (fun _ _ _ h => h) (Or.inl ⟨by rfl, ?_⟩) hHeld ?_ ?_
  rotate_left
  · rintro w' ⟨⟨a0_, a1_, a2_, a3_, a4_, a5_, a6_⟩, ⟨b0_, b1_, b2_, b3_, b4_, b5_, b6_⟩, ⟨c0_, c1_, c2_, c3_, c4_, c5_, c6_⟩, ⟨o0_, o1_, o2_, o3_, o4_, o5_, o6_⟩⟩
    go_simp
    with_reducible rfl
  rotate_left
  · simp only [Act.put, List.setIfInBounds_toArray, List.set_cons_zero, List.set_cons_succ, i64_w, i32_w]
    rfl
  refine take_ (i := 9) (N := some 40) (v := ?_) (a' := ?_) #[true, true, true, true, true, true, true, true, true, true, false, false, false, false, false, false, false, false, false, false, false, false, false, false, false, false, false, false, false, false, false, false] rfl rfl (by kernel_rfl) (fun _ _ _ h => h) (Or.inl ⟨by rfl, ?_⟩) hHeld ?_ ?_
  rotate_left
  · rintro w' ⟨⟨a0_, a1_, a2_, a3_, a4_, a5_, a6_⟩, ⟨b0_, b1_, b2_, b3_, b4_, b5_, b6_⟩, ⟨c0_, c1_, c2_, c3_, c4_, c5_, c6_⟩, ⟨o0_, o1_, o2_, o3_, o4_, o5_, o6_⟩⟩
    go_simp
    with_reducible rfl
  rotate_left
  · simp only [Act.put, List.setIfInBounds_toArray, List.set_cons_zero, List.set_cons_succ, i64_w, i32_w]
    rfl
  refine take_ (i := 10) (N := some 41) (v := ?_) (a' := ?_) #[true, true, true, true, true, true, true, true, true, true, true, false, false, false, false, false, false, false, false, false, false, false, false, false, false, false, false, false, false, false, false, false] rfl rfl (by kernel_rfl) (fun _ _ _ h => h) (Or.inl ⟨by rfl, ?_⟩) hHeld ?_ ?_
  rotate_left
  · rintro w' ⟨⟨a0_, a1_, a2_, a3_, a4_, a5_, a6_⟩, ⟨b0_, b1_, b2_, b3_, b4_, b5_, b6_⟩, ⟨c0_, c1_, c2_, c3_, c4_, c5_, c6_⟩, ⟨o0_, o1_, o2_, o3_, o4_, o5_, o6_⟩⟩
    go_simp
    with_reducible rfl
  rotate_left
  · simp only [Act.put, List.setIfInBounds_toArray, List.set_cons_zero, List.set_cons_succ, i64_w, i32_w]
    rfl
  refine one_ (i := 11) (N := some 42) #[true, true, true, true, true, true, true, true, true, true, true, true, false, false, false, false, false, false, false, false, false, false, false, false, false, false, false, false, false, false, false, false] rfl rfl (by kernel_rfl) (by decide) (fun K hK => ?_)
  refine value_ (w1 := ?_) (v := ?_) (by rfl) rfl ?_ ?_
  rotate_left 2
  · go_simp
    constructor
    · rfl
    · rfl
  have hup : Below w15.heap.size w15 (w15.alloc (.cells (List.toArray ((Value.int .i64 a.f0) :: (Value.string a.f1) :: (Value.int .i64 a.f2) :: (Value.bool a.f3) :: (Value.int .i64 a.f4.f0) :: (Value.slice A5a a.f4.f1.length c5a) :: (Value.slice A6a a.f4.f2.length c6a) :: (Value.int .i64 b.f0) :: (Value.string b.f1) :: (Value.int .i64 b.f2) :: (Value.bool b.f3) :: (Value.int .i64 b.f4.f0) :: (Value.slice A5b b.f4.f1.length c5b) :: (Value.slice A6b b.f4.f2.length c6b) :: (Value.int .i64 c.f0) :: (Value.string c.f1) :: (Value.int .i64 c.f2) :: (Value.bool c.f3) :: (Value.int .i64 c.f4.f0) :: (Value.slice A5c c.f4.f1.length c5c) :: (Value.slice A6c c.f4.f2.length c6c) :: [])) 33)) := upB (Below.refl _ _)
  have HL : Kd.C k33 (w15.alloc (.cells (List.toArray ((Value.int .i64 a.f0) :: (Value.string a.f1) :: (Value.int .i64 a.f2) :: (Value.bool a.f3) :: (Value.int .i64 a.f4.f0) :: (Value.slice A5a a.f4.f1.length c5a) :: (Value.slice A6a a.f4.f2.length c6a) :: (Value.int .i64 b.f0) :: (Value.string b.f1) :: (Value.int .i64 b.f2) :: (Value.bool b.f3) :: (Value.int .i64 b.f4.f0) :: (Value.slice A5b b.f4.f1.length c5b) :: (Value.slice A6b b.f4.f2.length c6b) :: (Value.int .i64 c.f0) :: (Value.string c.f1) :: (Value.int .i64 c.f2) :: (Value.bool c.f3) :: (Value.int .i64 c.f4.f0) :: (Value.slice A5c c.f4.f1.length c5c) :: (Value.slice A6c c.f4.f2.length c6c) :: [])) 33)) (some ⟨w15.heap.size, 0, none⟩) 3 [a, b, c] := C_lit [a, b, c] [[.int .i64 a.f0, .string a.f1, .int .i64 a.f2, .bool a.f3, .int .i64 a.f4.f0, .slice A5a a.f4.f1.length c5a, .slice A6a a.f4.f2.length c6a], [.int .i64 b.f0, .string b.f1, .int .i64 b.f2, .bool b.f3, .int .i64 b.f4.f0, .slice A5b b.f4.f1.length c5b, .slice A6b b.f4.f2.length c6b], [.int .i64 c.f0, .string c.f1, .int .i64 c.f2, .bool c.f3, .int .i64 c.f4.f0, .slice A5c c.f4.f1.length c5c, .slice A6c c.f4.f2.length c6c]] rfl (by simp) (by
    intro j hj
    have hj' : j < 3 := hj
    by_cases e0 : j = 0
    · subst e0; exact (HVa.out.step hup).is.k
    by_cases e1 : j = 1
    · subst e1; exact (HVb.out.step hup).is.k
    by_cases e2 : j = 2
    · subst e2; exact (HVc.out.step hup).is.k
    · exfalso; omega) (blk_new w15 _)
  replace HRO := Lib.hid (HRO.out.step hup)
  replace HVa := Lib.hid (HVa.out.step hup)
  replace HVb := Lib.hid (HVb.out.step hup)
  replace HVc := Lib.hid (HVc.out.step hup)
  replace HVo := Lib.hid (HVo.out.step hup)
  replace HVf := Lib.hid (HVf.out.step hup)
  replace HB := Lib.hid (below_step HB.out hup)
  replace HN := Lib.hid (Kd.C_below HN.out hup)
  clear hup
  generalize w15.alloc _ = w16 at HB HRO HN HL HVa HVb HVc HVo HVf ⊢
  generalize w15.heap.size = g15 at HL ⊢
  refine hK.out _ _ ⟨HVa.out.cells, HVb.out.cells, HVc.out.cells, HVo.out.cells⟩ (fun hHeld => ?_)
  clear hK K
  refine norm_ (a' := ?_) ?_ ?_
  rotate_left
  · show Act.put _ (some 42) _ = _
    simp only [Act.put, List.setIfInBounds_toArray, List.set_cons_zero, List.set_cons_succ, i64_w, i32_w]
    rfl
  refine one_ (i := 12) (N := some 43) #[true, true, true, true, true, true, true, true, true, true, true, true, true, false, false, false, false, false, false, false, false, false, false, false, false, false, false, false, false, false, false, false] rfl rfl (by kernel_rfl) (by decide) (fun K hK => ?_)
  refine goesC_ Tryd.func23 (by kernel_rfl) rfl #[.slice (some ⟨g15, 0, none⟩) 3 3] #[.pointer (some ⟨rb, 0, none⟩)] (by rfl) rfl rfl rfl (by (try simp only [List.map_toArray, List.map_cons, List.map_nil]); first | done | rfl) ?_
  refine (cert_any k rb ch A1 c1 l1 q num den _ 3 [a, b, c] _ _ HRO.out HL (by simp) (tabs_below HT.out HB.out) G3.out).mono ?_
  rintro e w17 ⟨rfl, hb⟩
  refine ⟨_, rfl, ?_⟩
  replace HRO := Lib.hid (HRO.out.step hb)
  replace HVa := Lib.hid (HVa.out.step hb)
  replace HVb := Lib.hid (HVb.out.step hb)
  replace HVc := Lib.hid (HVc.out.step hb)
  replace HVo := Lib.hid (HVo.out.step hb)
  replace HVf := Lib.hid (HVf.out.step hb)
  replace HB := Lib.hid (below_step HB.out hb)
  replace HN := Lib.hid (Kd.C_below HN.out hb)
  clear hb HL
  refine hK.out _ _ ⟨HVa.out.cells, HVb.out.cells, HVc.out.cells, HVo.out.cells⟩ (fun hHeld => ?_)
  clear hK K
  refine norm_ (a' := ?_) ?_ ?_
  rotate_left
  · show Act.put _ (some 43) _ = _
    simp only [Act.put, List.setIfInBounds_toArray, List.set_cons_zero, List.set_cons_succ, i64_w, i32_w]
    rfl
  refine pure_ (i := 13) (N := some 44) (v := ?_) (a' := ?_) #[true, true, true, true, true, true, true, true, true, true, true, true, true, true, false, false, false, false, false, false, false, false, false, false, false, false, false, false, false, false, false, false] rfl rfl (by kernel_rfl) (fun _ _ _ h => h) (Or.inl ⟨by rfl, ?_⟩) ?_ ?_
  rotate_left
  · intro w'
    go_simp
    with_reducible rfl
  rotate_left
  · simp only [Act.put, List.setIfInBounds_toArray, List.set_cons_zero, List.set_cons_succ, i64_w, i32_w]
    rfl
  refine pure_ (i := 14) (N := some 45) (v := ?_) (a' := ?_) #[true, true, true, true, true, true, true, true, true, true, true, true, true, true, true, false, false, false, false, false, false, false, false, false, false, false, false, false, false, false, false, false] rfl rfl (by kernel_rfl) (fun _ _ _ h => h) (Or.inl ⟨by rfl, ?_⟩) ?_ ?_
  rotate_left
  · intro w'
    go_simp
    with_reducible rfl
  rotate_left
  · simp only [Act.put, List.setIfInBounds_toArray, List.set_cons_zero, List.set_cons_succ, i64_w, i32_w]
    rfl
  refine pure_ (i := 15) (N := some 46) (v := ?_) (a' := ?_) #[true, true, true, true, true, true, true, true, true, true, true, true, true, true, true, true, false, false, false, false, false, false, false, false, false, false, false, false, false, false, false, false] rfl rfl (by kernel_rfl) (fun _ _ _ h => h) (Or.inl ⟨by rfl, ?_⟩) ?_ ?_
  rotate_left
  · intro w'
    go_simp
    with_reducible rfl
  rotate_left
  · simp only [Act.put, List.setIfInBounds_toArray, List.set_cons_zero, List.set_cons_succ, i64_w, i32_w]
    rfl
  refine pure_ (i := 16) (N := some 47) (v := ?_) (a' := ?_) #[true, true, true, true, true, true, true, true, true, true, true, true, true, true, true, true, true, false, false, false, false, false, false, false, false, false, false, false, false, false, false, false] rfl rfl (by kernel_rfl) (fun _ _ _ h => h) (Or.inl ⟨by rfl, ?_⟩) ?_ ?_
  rotate_left
  · intro w'
    go_simp
    with_reducible rfl
  rotate_left
  · simp only [Act.put, List.setIfInBounds_toArray, List.set_cons_zero, List.set_cons_succ, i64_w, i32_w]
    rfl
  refine take_ (i := 17) (N := some 48) (v := ?_) (a' := ?_) #[true, true, true, true, true, true, true, true, true, true, true, true, true, true, true, true, true, true, false, false, false, false, false, false, false, false, false, false, false, false, false, false] rfl rfl (by kernel_rfl) (fun _ _ _ h => h) (Or.inl ⟨by rfl, ?_⟩) hHeld ?_ ?_
  rotate_left
  · rintro w' ⟨⟨a0_, a1_, a2_, a3_, a4_, a5_, a6_⟩, ⟨b0_, b1_, b2_, b3_, b4_, b5_, b6_⟩, ⟨c0_, c1_, c2_, c3_, c4_, c5_, c6_⟩, ⟨o0_, o1_, o2_, o3_, o4_, o5_, o6_⟩⟩
    go_simp
    with_reducible rfl
  rotate_left
  · simp only [Act.put, List.setIfInBounds_toArray, List.set_cons_zero, List.set_cons_succ, i64_w, i32_w]
    rfl
  refine take_ (i := 18) (N := some 49) (v := ?_) (a' := ?_) #[true, true, true, true, true, true, true, true, true, true, true, true, true, true, true, true, true, true, true, false, false, false, false, false, false, false, false, false, false, false, false, false] rfl rfl (by kernel_rfl) (fun _ _ _ h => h) (Or.inl ⟨by rfl, ?_⟩) hHeld ?_ ?_
  rotate_left
  · rintro w' ⟨⟨a0_, a1_, a2_, a3_, a4_, a5_, a6_⟩, ⟨b0_, b1_, b2_, b3_, b4_, b5_, b6_⟩, ⟨c0_, c1_, c2_, c3_, c4_, c5_, c6_⟩, ⟨o0_, o1_, o2_, o3_, o4_, o5_, o6_⟩⟩
    go_simp
    with_reducible rfl
  rotate_left
  · simp only [Act.put, List.setIfInBounds_toArray, List.set_cons_zero, List.set_cons_succ, i64_w, i32_w]
    rfl
  refine one_ (i := 19) (N := some 50) #[true, true, true, true, true, true, true, true, true, true, true, true, true, true, true, true, true, true, true, true, false, false, false, false, false, false, false, false, false, false, false, false] rfl rfl (by kernel_rfl) (by decide) (fun K hK => ?_)
  refine value_ (w1 := ?_) (v := ?_) (by rfl) rfl ?_ ?_
  rotate_left 2
  · go_simp
    constructor
    · rfl
    · rfl
  have hup : Below w17.heap.size w17 (w17.alloc (.cells (List.toArray ((Value.int .i64 a.f0) :: (Value.string a.f1) :: (Value.int .i64 a.f2) :: (Value.bool a.f3) :: (Value.int .i64 a.f4.f0) :: (Value.slice A5a a.f4.f1.length c5a) :: (Value.slice A6a a.f4.f2.length c6a) :: (Value.int .i64 a.f0) :: (Value.string a.f1) :: (Value.int .i64 a.f2) :: (Value.bool a.f3) :: (Value.int .i64 a.f4.f0) :: (Value.slice A5a a.f4.f1.length c5a) :: (Value.slice A6a a.f4.f2.length c6a) :: [])) 33)) := upB (Below.refl _ _)
  have HL : Kd.C k33 (w17.alloc (.cells (List.toArray ((Value.int .i64 a.f0) :: (Value.string a.f1) :: (Value.int .i64 a.f2) :: (Value.bool a.f3) :: (Value.int .i64 a.f4.f0) :: (Value.slice A5a a.f4.f1.length c5a) :: (Value.slice A6a a.f4.f2.length c6a) :: (Value.int .i64 a.f0) :: (Value.string a.f1) :: (Value.int .i64 a.f2) :: (Value.bool a.f3) :: (Value.int .i64 a.f4.f0) :: (Value.slice A5a a.f4.f1.length c5a) :: (Value.slice A6a a.f4.f2.length c6a) :: [])) 33)) (some ⟨w17.heap.size, 0, none⟩) 2 [a, a] := C_lit [a, a] [[.int .i64 a.f0, .string a.f1, .int .i64 a.f2, .bool a.f3, .int .i64 a.f4.f0, .slice A5a a.f4.f1.length c5a, .slice A6a a.f4.f2.length c6a], [.int .i64 a.f0, .string a.f1, .int .i64 a.f2, .bool a.f3, .int .i64 a.f4.f0, .slice A5a a.f4.f1.length c5a, .slice A6a a.f4.f2.length c6a]] rfl (by simp) (by
    intro j hj
    have hj' : j < 2 := hj
    by_cases e0 : j = 0
    · subst e0; exact (HVa.out.step hup).is.k
    by_cases e1 : j = 1
    · subst e1; exact (HVa.out.step hup).is.k
    · exfalso; omega) (blk_new w17 _)
  replace HRO := Lib.hid (HRO.out.step hup)
  replace HVa := Lib.hid (HVa.out.step hup)
  replace HVb := Lib.hid (HVb.out.step hup)
  replace HVc := Lib.hid (HVc.out.step hup)
  replace HVo := Lib.hid (HVo.out.step hup)
  replace HVf := Lib.hid (HVf.out.step hup)
  replace HB := Lib.hid (below_step HB.out hup)
  replace HN := Lib.hid (Kd.C_below HN.out hup)
  clear hup
  generalize w17.alloc _ = w18 at HB HRO HN HL HVa HVb HVc HVo HVf ⊢
  generalize w17.heap.size = g17 at HL ⊢
  refine hK.out _ _ ⟨HVa.out.cells, HVb.out.cells, HVc.out.cells, HVo.out.cells⟩ (fun hHeld => ?_)
  clear hK K
  refine norm_ (a' := ?_) ?_ ?_
  rotate_left
  · show Act.put _ (some 50) _ = _
    simp only [Act.put, List.setIfInBounds_toArray, List.set_cons_zero, List.set_cons_succ, i64_w, i32_w]
    rfl
  refine one_ (i := 20) (N := some 51) #[true, true, true, true, true, true, true, true, true, true, true, true, true, true, true, true, true, true, true, true, true, false, false, false, false, false, false, false, false, false, false, false] rfl rfl (by kernel_rfl) (by decide) (fun K hK => ?_)
  refine goesC_ Tryd.func23 (by kernel_rfl) rfl #[.slice (some ⟨g17, 0, none⟩) 2 2] #[.pointer (some ⟨rb, 0, none⟩)] (by rfl) rfl rfl rfl (by (try simp only [List.map_toArray, List.map_cons, List.map_nil]); first | done | rfl) ?_
  refine (cert_any k rb ch A1 c1 l1 q num den _ 2 [a, a] _ _ HRO.out HL (by simp) (tabs_below HT.out HB.out) G4.out).mono ?_
  rintro e w19 ⟨rfl, hb⟩
  refine ⟨_, rfl, ?_⟩
  replace HRO := Lib.hid (HRO.out.step hb)
  replace HVa := Lib.hid (HVa.out.step hb)
  replace HVb := Lib.hid (HVb.out.step hb)
  replace HVc := Lib.hid (HVc.out.step hb)
  replace HVo := Lib.hid (HVo.out.step hb)
  replace HVf := Lib.hid (HVf.out.step hb)
  replace HB := Lib.hid (below_step HB.out hb)
  replace HN := Lib.hid (Kd.C_below HN.out hb)
  clear hb HL
  refine hK.out _ _ ⟨HVa.out.cells, HVb.out.cells, HVc.out.cells, HVo.out.cells⟩ (fun hHeld => ?_)
  clear hK K
  refine norm_ (a' := ?_) ?_ ?_
  rotate_left
  · show Act.put _ (some 51) _ = _
    simp only [Act.put, List.setIfInBounds_toArray, List.set_cons_zero, List.set_cons_succ, i64_w, i32_w]
    rfl
  refine pure_ (i := 21) (N := some 52) (v := ?_) (a' := ?_) #[true, true, true, true, true, true, true, true, true, true, true, true, true, true, true, true, true, true, true, true, true, true, false, false, false, false, false, false, false, false, false, false] rfl rfl (by kernel_rfl) (fun _ _ _ h => h) (Or.inl ⟨by rfl, ?_⟩) ?_ ?_
  rotate_left
  · intro w'
    go_simp
    with_reducible rfl
  rotate_left
  · simp only [Act.put, List.setIfInBounds_toArray, List.set_cons_zero, List.set_cons_succ, i64_w, i32_w]
    rfl
  refine pure_ (i := 22) (N := some 53) (v := ?_) (a' := ?_) #[true, true, true, true, true, true, true, true, true, true, true, true, true, true, true, true, true, true, true, true, true, true, true, false, false, false, false, false, false, false, false, false] rfl rfl (by kernel_rfl) (fun _ _ _ h => h) (Or.inl ⟨by rfl, ?_⟩) ?_ ?_
  rotate_left
  · intro w'
    go_simp
    with_reducible rfl
  rotate_left
  · simp only [Act.put, List.setIfInBounds_toArray, List.set_cons_zero, List.set_cons_succ, i64_w, i32_w]
    rfl
  refine pure_ (i := 23) (N := some 54) (v := ?_) (a' := ?_) #[true, true, true, true, true, true, true, true, true, true, true, true, true, true, true, true, true, true, true, true, true, true, true, true, false, false, false, false, false, false, false, false] rfl rfl (by kernel_rfl) (fun _ _ _ h => h) (Or.inl ⟨by rfl, ?_⟩) ?_ ?_
  rotate_left
  · intro w'
    go_simp
    with_reducible rfl
  rotate_left
  · simp only [Act.put, List.setIfInBounds_toArray, List.set_cons_zero, List.set_cons_succ, i64_w, i32_w]
    rfl
  refine pure_ (i := 24) (N := some 55) (v := ?_) (a' := ?_) #[true, true, true, true, true, true, true, true, true, true, true, true, true, true, true, true, true, true, true, true, true, true, true, true, true, false, false, false, false, false, false, false] rfl rfl (by kernel_rfl) (fun _ _ _ h => h) (Or.inl ⟨by rfl, ?_⟩) ?_ ?_
  rotate_left
  · intro w'
    go_simp
    with_reducible rfl
  rotate_left
  · simp only [Act.put, List.setIfInBounds_toArray, List.set_cons_zero, List.set_cons_succ, i64_w, i32_w]
    rfl
  refine take_ (i := 25) (N := some 56) (v := ?_) (a' := ?_) #[true, true, true, true, true, true, true, true, true, true, true, true, true, true, true, true, true, true, true, true, true, true, true, true, true, true, false, false, false, false, false, false] rfl rfl (by kernel_rfl) (fun _ _ _ h => h) (Or.inl ⟨by rfl, ?_⟩) hHeld ?_ ?_
  rotate_left
  · rintro w' ⟨⟨a0_, a1_, a2_, a3_, a4_, a5_, a6_⟩, ⟨b0_, b1_, b2_, b3_, b4_, b5_, b6_⟩, ⟨c0_, c1_, c2_, c3_, c4_, c5_, c6_⟩, ⟨o0_, o1_, o2_, o3_, o4_, o5_, o6_⟩⟩
    go_simp
    with_reducible rfl
  rotate_left
  · simp only [Act.put, List.setIfInBounds_toArray, List.set_cons_zero, List.set_cons_succ, i64_w, i32_w]
    rfl
  refine take_ (i := 26) (N := some 57) (v := ?_) (a' := ?_) #[true, true, true, true, true, true, true, true, true, true, true, true, true, true, true, true, true, true, true, true, true, true, true, true, true, true, true, false, false, false, false, false] rfl rfl (by kernel_rfl) (fun _ _ _ h => h) (Or.inl ⟨by rfl, ?_⟩) hHeld ?_ ?_
  rotate_left
  · rintro w' ⟨⟨a0_, a1_, a2_, a3_, a4_, a5_, a6_⟩, ⟨b0_, b1_, b2_, b3_, b4_, b5_, b6_⟩, ⟨c0_, c1_, c2_, c3_, c4_, c5_, c6_⟩, ⟨o0_, o1_, o2_, o3_, o4_, o5_, o6_⟩⟩
    go_simp
    with_reducible rfl
  rotate_left
  · simp only [Act.put, List.setIfInBounds_toArray, List.set_cons_zero, List.set_cons_succ, i64_w, i32_w]
    rfl
  refine take_ (i := 27) (N := some 58) (v := ?_) (a' := ?_) #[true, true, true, true, true, true, true, true, true, true, true, true, true, true, true, true, true, true, true, true, true, true, true, true, true, true, true, true, false, false, false, false] rfl rfl (by kernel_rfl) (fun _ _ _ h => h) (Or.inl ⟨by rfl, ?_⟩) hHeld ?_ ?_
  rotate_left
  · rintro w' ⟨⟨a0_, a1_, a2_, a3_, a4_, a5_, a6_⟩, ⟨b0_, b1_, b2_, b3_, b4_, b5_, b6_⟩, ⟨c0_, c1_, c2_, c3_, c4_, c5_, c6_⟩, ⟨o0_, o1_, o2_, o3_, o4_, o5_, o6_⟩⟩
    go_simp
    with_reducible rfl
  rotate_left
  · simp only [Act.put, List.setIfInBounds_toArray, List.set_cons_zero, List.set_cons_succ, i64_w, i32_w]
    rfl
  refine one_ (i := 28) (N := some 59) #[true, true, true, true, true, true, true, true, true, true, true, true, true, true, true, true, true, true, true, true, true, true, true, true, true, true, true, true, true, false, false, false] rfl rfl (by kernel_rfl) (by decide) (fun K hK => ?_)
  refine value_ (w1 := ?_) (v := ?_) (by rfl) rfl ?_ ?_
  rotate_left 2
  · go_simp
    constructor
    · rfl
    · rfl
  have hup : Below w19.heap.size w19 (w19.alloc (.cells (List.toArray ((Value.int .i64 a.f0) :: (Value.string a.f1) :: (Value.int .i64 a.f2) :: (Value.bool a.f3) :: (Value.int .i64 a.f4.f0) :: (Value.slice A5a a.f4.f1.length c5a) :: (Value.slice A6a a.f4.f2.length c6a) :: (Value.int .i64 o.f0) :: (Value.string o.f1) :: (Value.int .i64 o.f2) :: (Value.bool o.f3) :: (Value.int .i64 o.f4.f0) :: (Value.slice A5o o.f4.f1.length c5o) :: (Value.slice A6o o.f4.f2.length c6o) :: (Value.int .i64 b.f0) :: (Value.string b.f1) :: (Value.int .i64 b.f2) :: (Value.bool b.f3) :: (Value.int .i64 b.f4.f0) :: (Value.slice A5b b.f4.f1.length c5b) :: (Value.slice A6b b.f4.f2.length c6b) :: [])) 33)) := upB (Below.refl _ _)
  have HL : Kd.C k33 (w19.alloc (.cells (List.toArray ((Value.int .i64 a.f0) :: (Value.string a.f1) :: (Value.int .i64 a.f2) :: (Value.bool a.f3) :: (Value.int .i64 a.f4.f0) :: (Value.slice A5a a.f4.f1.length c5a) :: (Value.slice A6a a.f4.f2.length c6a) :: (Value.int .i64 o.f0) :: (Value.string o.f1) :: (Value.int .i64 o.f2) :: (Value.bool o.f3) :: (Value.int .i64 o.f4.f0) :: (Value.slice A5o o.f4.f1.length c5o) :: (Value.slice A6o o.f4.f2.length c6o) :: (Value.int .i64 b.f0) :: (Value.string b.f1) :: (Value.int .i64 b.f2) :: (Value.bool b.f3) :: (Value.int .i64 b.f4.f0) :: (Value.slice A5b b.f4.f1.length c5b) :: (Value.slice A6b b.f4.f2.length c6b) :: [])) 33)) (some ⟨w19.heap.size, 0, none⟩) 3 [a, o, b] := C_lit [a, o, b] [[.int .i64 a.f0, .string a.f1, .int .i64 a.f2, .bool a.f3, .int .i64 a.f4.f0, .slice A5a a.f4.f1.length c5a, .slice A6a a.f4.f2.length c6a], [.int .i64 o.f0, .string o.f1, .int .i64 o.f2, .bool o.f3, .int .i64 o.f4.f0, .slice A5o o.f4.f1.length c5o, .slice A6o o.f4.f2.length c6o], [.int .i64 b.f0, .string b.f1, .int .i64 b.f2, .bool b.f3, .int .i64 b.f4.f0, .slice A5b b.f4.f1.length c5b, .slice A6b b.f4.f2.length c6b]] rfl (by simp) (by
    intro j hj
    have hj' : j < 3 := hj
    by_cases e0 : j = 0
    · subst e0; exact (HVa.out.step hup).is.k
    by_cases e1 : j = 1
    · subst e1; exact (HVo.out.step hup).is.k
    by_cases e2 : j = 2
    · subst e2; exact (HVb.out.step hup).is.k
    · exfalso; omega) (blk_new w19 _)
  replace HRO := Lib.hid (HRO.out.step hup)
  replace HVa := Lib.hid (HVa.out.step hup)
  replace HVb := Lib.hid (HVb.out.step hup)
  replace HVc := Lib.hid (HVc.out.step hup)
  replace HVo := Lib.hid (HVo.out.step hup)
  replace HVf := Lib.hid (HVf.out.step hup)
  replace HB := Lib.hid (below_step HB.out hup)
  replace HN := Lib.hid (Kd.C_below HN.out hup)
  clear hup
  generalize w19.alloc _ = w20 at HB HRO HN HL HVa HVb HVc HVo HVf ⊢
  generalize w19.heap.size = g19 at HL ⊢
  refine hK.out _ _ ⟨HVa.out.cells, HVb.out.cells, HVc.out.cells, HVo.out.cells⟩ (fun hHeld => ?_)
  clear hK K
  refine norm_ (a' := ?_) ?_ ?_
  rotate_left
  · show Act.put _ (some 59) _ = _
    simp only [Act.put, List.setIfInBounds_toArray, List.set_cons_zero, List.set_cons_succ, i64_w, i32_w]
    rfl
  refine one_ (i := 29) (N := some 60) #[true, true, true, true, true, true, true, true, true, true, true, true, true, true, true, true, true, true, true, true, true, true, true, true, true, true, true, true, true, true, false, false] rfl rfl (by kernel_rfl) (by decide) (fun K hK => ?_)
  refine goesC_ Tryd.func23 (by kernel_rfl) rfl #[.slice (some ⟨g19, 0, none⟩) 3 3] #[.pointer (some ⟨rb, 0, none⟩)] (by rfl) rfl rfl rfl (by (try simp only [List.map_toArray, List.map_cons, List.map_nil]); first | done | rfl) ?_
  refine (cert_any k rb ch A1 c1 l1 q num den _ 3 [a, o, b] _ _ HRO.out HL (by simp) (tabs_below HT.out HB.out) G5.out).mono ?_
  rintro e w21 ⟨rfl, hb⟩
  refine ⟨_, rfl, ?_⟩
  replace HRO := Lib.hid (HRO.out.step hb)
  replace HVa := Lib.hid (HVa.out.step hb)
  replace HVb := Lib.hid (HVb.out.step hb)
  replace HVc := Lib.hid (HVc.out.step hb)
  replace HVo := Lib.hid (HVo.out.step hb)
  replace HVf := Lib.hid (HVf.out.step hb)
  replace HB := Lib.hid (below_step HB.out hb)
  replace HN := Lib.hid (Kd.C_below HN.out hb)
  clear hb HL
  refine hK.out _ _ ⟨HVa.out.cells, HVb.out.cells, HVc.out.cells, HVo.out.cells⟩ (fun hHeld => ?_)
  clear hK K
  refine norm_ (a' := ?_) ?_ ?_
  rotate_left
  · show Act.put _ (some 60) _ = _
    simp only [Act.put, List.setIfInBounds_toArray, List.set_cons_zero, List.set_cons_succ, i64_w, i32_w]
    rfl
  refine pure_ (i := 30) (N := some 61) (v := ?_) (a' := ?_) #[true, true, true, true, true, true, true, true, true, true, true, true, true, true, true, true, true, true, true, true, true, true, true, true, true, true, true, true, true, true, true, false] rfl rfl (by kernel_rfl) (fun _ _ _ h => h) (Or.inl ⟨by rfl, ?_⟩) ?_ ?_
  rotate_left
  · intro w'
    go_simp
    with_reducible rfl
  rotate_left
  · simp only [Act.put, List.setIfInBounds_toArray, List.set_cons_zero, List.set_cons_succ, i64_w, i32_w]
    rfl
  refine pure_ (i := 31) (N := some 62) (v := ?_) (a' := ?_) #[true, true, true, true, true, true, true, true, true, true, true, true, true, true, true, true, true, true, true, true, true, true, true, true, true, true, true, true, true, true, true, true] rfl rfl (by kernel_rfl) (fun _ _ _ h => h) (Or.inl ⟨by rfl, ?_⟩) ?_ ?_
  rotate_left
  · intro w'
    go_simp
    with_reducible rfl
  rotate_left
  · simp only [Act.put, List.setIfInBounds_toArray, List.set_cons_zero, List.set_cons_succ, i64_w, i32_w]
    rfl
  refine done_ (by kernel_rfl) ?_
  go_wp2_with fail
  skip
  have hup : Below w21.heap.size w21 (w21.alloc (.cells #[.int .i64 1, .int .i64 2] 3)) := upB (Below.refl _ _)
  have HL := ints2 w21 1 2
  refine (pandectref39_Ints.calls k An cn n3 _ 2 [1, 2] r _ (Kd.C_below HN.out hup) gn HL (by simp) HE.out).mono ?_
  rintro e w' ⟨rfl, ⟨nd, rfl⟩⟩
  replace HB := Lib.hid (pw_below_drewN (below_step HB.out hup) nd)
  clear hup HL
  go_wp2
  go_ret
  exact ⟨rfl, HB.out⟩
end Go.Proofs.YtoimnllcniefoaaDoor.P
