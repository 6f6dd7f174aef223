import Derived.Test.YtoimnllcniefoaaDoorTie
import Derived.Test.YtoimnllcniefoaaDoorKPx0
import Derived.Test.YtoimnllcniefoaaDoorKPx1
import Derived.Test.YtoimnllcniefoaaDoorKPx2
import Derived.Test.YtoimnllcniefoaaDoorKPx3
import Derived.Test.YtoimnllcniefoaaDoorKPx4
import Derived.Test.YtoimnllcniefoaaDoorKPx6
import Derived.Test.YtoimnllcniefoaaDoorKXPx7
import Derived.Test.YtoimnllcniefoaaDoorKD
import Derived.Test.YtoimnllcniefoaaDoorKTa
import Derived.Test.YtoimnllcniefoaaDoorKVa
import Derived.Test.YtoimnllcniefoaaDoorKVb
import Derived.ProofKit
import Derived.OpenShut
import Derived.ShutString
import Derived.LaidMore
import Derived.LaidSub
import Derived.Lay
import Derived.SevenTiedAt
import Derived.Stop.Joined
import Derived.SliceStrings
import Derived.Lib.SmallJoins
import Derived.Test.YtoimnllcniefoaaDoorKXV
set_option linter.unusedVariables false
set_option linter.unusedSimpArgs false
/- What every row of the seat needs: the listed variables, the table that strconv.Itoa reads, a slice of strings as an argument. -/
namespace Go.Proofs.YtoimnllcniefoaaDoor.P
open Go.ChangeShapes Go.WideShapes Go.ChangeAt Go.RowKit
open Go.Proofs.YtoimnllcniefoaaDoor Go.Proofs.YtoimnllcniefoaaDoorW.PrintWords Go.Proofs.YtoimnllcniefoaaDoorW.PrintLast Go.Proofs.YtoimnllcniefoaaDoorW.PrintMore
set_option linter.unusedVariables false

theorem own : ownKnob Tryd.prog.godebug = none := by kernel_rfl
theorem laidOut : laidOutB Tryd.prog = true := by kernel_rfl
def laid : List (String × DataW Unit) := [("math/bits.deBruijn32tab", Rows.laid_math_bits_deBruijn32tab), ("math/bits.deBruijn64tab", Rows.laid_math_bits_deBruijn64tab), ("internal/strconv.uint64pow10", Rows.laid_internal_strconv_uint64pow10), ("unicode/utf8.acceptRanges", Rows.laid_unicode_utf8_acceptRanges), ("unicode/utf8.first", Rows.laid_unicode_utf8_first)]

theorem tabs_of_laid {W : World} (h : laidMetH Tryd.prog laid W) : Tabs W := by
  have h2 := h.filter (fun x => x.1 == "internal/strconv.uint64pow10")
  have e : laid.filter (fun x => x.1 == "internal/strconv.uint64pow10") = [("internal/strconv.uint64pow10", Lib.tabData .u64 Lib.pow10Tab)] := by kernel_rfl
  rw [e, MakeChecks.laidMetH_plain _ _ _ (by kernel_rfl)] at h2
  exact Lib.tabIs_of_head tabs_global (t := 138) (e := 80) (n := 20) (by kernel_rfl) Tryd.underlying138 Tryd.underlying80 (by kernel_rfl) (by kernel_rfl) h2

/-- The witness: a start in which the listed variables read as the row says. -/
theorem laid_met (os : Os) (args : Array Value) : laidMetH Tryd.prog laid ((World.laidAll Tryd.prog os laid).forCall (fun _ _ => 0) ⟨#[], args, []⟩).memory := by
  rw [MakeChecks.laidMetH_plain _ _ _ (by kernel_rfl)]
  exact laidMet_laidAll _ (by kernel_rfl) (by kernel_rfl)
theorem laid_shaped (os : Os) (args : Array Value) : ((World.laidAll Tryd.prog os laid).forCall (fun _ _ => 0) ⟨#[], args, []⟩).Shaped Tryd.prog :=
  World.shaped_of_ZipB (by kernel_rfl) (by kernel_rfl)

end Go.Proofs.YtoimnllcniefoaaDoor.P
/- Arguments that came in, as the print reads them: slices of whatever, seals, votes, rolls, certificates. -/
namespace Go.Proofs.YtoimnllcniefoaaDoor.P
open Go.ChangeShapes Go.WideShapes Go.ChangeAt Go.RowKit
open Go.Proofs.YtoimnllcniefoaaDoor Go.Proofs.YtoimnllcniefoaaDoorW.PrintWords Go.Proofs.YtoimnllcniefoaaDoorW.PrintLast Go.Proofs.YtoimnllcniefoaaDoorW.PrintMore
set_option linter.unusedVariables false

section
variable {H : Type} {enc : TypeId × Value → H} {W : World} {spare : Nat → Bool} {held : Bool}
theorem int_in {n : Nat} {cs : List Value} {x : DataW H × List MemPlace} (h : DataW.trod enc Tryd.prog W 0 spare held n 3 cs = some x) : ∃ a : Int, cs = [.int .i64 a] ∧ -9223372036854775808 ≤ a ∧ a ≤ 9223372036854775807 := by
  obtain ⟨a, e, _, hw⟩ := DataW.trod_int Tryd.underlying3 h
  refine ⟨a, e, ?_⟩
  simp [Lit.wf, IntKind.min, IntKind.max, IntKind.signed, IntKind.bits] at hw
  omega
theorem str_in {n : Nat} {cs : List Value} {x : DataW H × List MemPlace} (h : DataW.trod enc Tryd.prog W 0 spare held n 9 cs = some x) : ∃ a : ByteArray, cs = [.string a] ∧ a.size ≤ 9223372036854775807 := by
  obtain ⟨a, e, _, hw⟩ := DataW.trod_string Tryd.underlying9 h
  exact ⟨a, e, hw⟩
theorem bool_in {n : Nat} {cs : List Value} {x : DataW H × List MemPlace} (h : DataW.trod enc Tryd.prog W 0 spare held n 4 cs = some x) : ∃ a : Bool, cs = [.bool a] := by
  obtain ⟨a, e, _⟩ := DataW.trod_bool Tryd.underlying4 h
  exact ⟨a, e⟩

set_option maxRecDepth 100000 in
theorem slice_in {α : Type} {d : Kd α} {Q : α → Prop} {T e : TypeId} (ht : Tryd.prog.underlying T = some (.slice e)) (hz : Tryd.prog.cellsOf e = d.sz)
    (hel : ∀ n cs x, DataW.trod enc Tryd.prog W 0 spare held n e cs = some x → ∃ a, d.K W a cs ∧ Q a) {n : Nat} {cs : List Value} {x : DataW H × List MemPlace} (h : DataW.trod enc Tryd.prog W 0 spare held n T cs = some x) :
    ∃ (l : List α) (A : Option Addr) (c : Nat), cs = [.slice A l.length c] ∧ l.length ≤ c ∧ d.C W A l.length l ∧ ∀ a ∈ l, Q a := by
  rcases DataW.trod_slice ht h with ⟨rfl, _⟩ | ⟨ad, len, cap, elems, rest, m, _, rfl, _, _, hlc, hcm, hl, hE, _, _⟩
  · exact ⟨[], none, 0, rfl, Nat.le_refl _, ⟨rfl, by simp, fun h => by simp at h⟩, fun a ha => by cases ha⟩
  · have hp : ∀ i : Fin len, ∃ a : α, (∃ c, c.length = d.sz ∧ d.K W a c ∧ ∀ j u, c[j]? = some u → W.cell? (ad.add (i.1 * d.sz + j)) = some u) ∧ Q a := by
      intro i
      have h1 := hE i.1 i.2
      rw [List.getElem?_eq_getElem (by omega)] at h1
      obtain ⟨c, hc, ht⟩ := Option.bind_eq_some_iff.1 h1
      obtain ⟨a, hK, hQ⟩ := hel m c _ ht
      obtain ⟨_, hcl, hcc⟩ := World.cells?_some hc
      refine ⟨a, ⟨c, d.K_len hK, hK, fun j u hu => ?_⟩, hQ⟩
      have hj : j < Tryd.prog.cellsOf e := by
        have := (List.getElem?_eq_some_iff.1 hu).1
        omega
      have := hcc j hj
      rw [hu, hz] at this
      rw [← this]
      rw [Addr.add_add]
    obtain ⟨f, hf⟩ := Classical.axiomOfChoice hp
    have hlen : (List.ofFn f).length = len := List.length_ofFn
    have hcap : cap ≤ 9223372036854775807 := hcm
    refine ⟨List.ofFn f, some ad, cap, by rw [hlen], by omega, ⟨rfl, by omega, fun _ => ⟨ad, rfl, fun j p hpj => ?_⟩⟩, fun a ha => ?_⟩
    · obtain ⟨hj, hpe⟩ := List.getElem?_eq_some_iff.1 hpj
      rw [List.getElem_ofFn] at hpe
      subst hpe
      exact (hf ⟨j, by omega⟩).1
    · obtain ⟨i, rfl⟩ := List.mem_ofFn.1 ha
      exact (hf i).2

theorem strs_in {n : Nat} {cs : List Value} {x : DataW H × List MemPlace} (h : DataW.trod enc Tryd.prog W 0 spare held n 22 cs = some x) : ∃ (l : List ByteArray) (A : Option Addr) (c : Nat), cs = [.slice A l.length c] ∧ l.length ≤ c ∧ Kd.string.C W A l.length l := by
  obtain ⟨l, A, c, e, hc, hC, _⟩ := slice_in (d := Kd.string) (Q := fun _ => True) Tryd.underlying22 (by kernel_rfl) (fun n cs x h => by obtain ⟨a, e, _⟩ := str_in h; exact ⟨a, e, trivial⟩) h
  exact ⟨l, A, c, e, hc, hC⟩

theorem len7 {cs : List Value} (h : cs.length = 7) : ∃ a b c d e f g, cs = [a, b, c, d, e, f, g] := by
  match cs, h with
  | [a, b, c, d, e, f, g], _ => exact ⟨a, b, c, d, e, f, g, rfl⟩
theorem len5 {cs : List Value} (h : cs.length = 5) : ∃ a b c d e, cs = [a, b, c, d, e] := by
  match cs, h with
  | [a, b, c, d, e], _ => exact ⟨a, b, c, d, e, rfl⟩
theorem len3 {cs : List Value} (h : cs.length = 3) : ∃ a b c, cs = [a, b, c] := by
  match cs, h with
  | [a, b, c], _ => exact ⟨a, b, c, rfl⟩

/-- The field i of a struct that came in. -/
theorem field_in {fs : Array Field} {xs : List (DataW H × List MemPlace)} {n : Nat} {cs : List Value} (hl : xs.length = fs.size) (h : ∀ (i : Nat) (f : Field), fs[i]? = some f → DataW.trod enc Tryd.prog W 0 spare held n f.type ((cs.drop f.offset).take (Tryd.prog.cellsOf f.type)) = xs[i]?) (i : Nat) (f : Field) (hf : fs[i]? = some f) {T o c : Nat} (e1 : f.type = T) (e2 : f.offset = o) (e3 : Tryd.prog.cellsOf T = c) : ∃ x, DataW.trod enc Tryd.prog W 0 spare held n T ((cs.drop o).take c) = some x := by
  have h1 := h i f hf
  subst e1; subst e2; subst e3
  have hi : i < xs.length := by rw [hl]; exact (Array.getElem?_eq_some_iff.1 hf).1
  rw [List.getElem?_eq_getElem hi] at h1
  exact ⟨_, h1⟩

theorem seal_in {n : Nat} {cs : List Value} {x : DataW H × List MemPlace} (h : DataW.trod enc Tryd.prog W 0 spare held n 31 cs = some x) : ∃ a : S31, k31.K W a cs := by
  obtain ⟨xs, m, _, _, hl, hxl, hf⟩ := DataW.trod_struct Tryd.underlying31 h
  obtain ⟨v0, v1, v2, rfl⟩ := len3 (hl.trans (by kernel_rfl))
  obtain ⟨y0, t0⟩ := field_in hxl hf 0 _ rfl (T := 3) (o := 0) (c := 1) rfl rfl (by kernel_rfl)
  obtain ⟨y1, t1⟩ := field_in hxl hf 1 _ rfl (T := 22) (o := 1) (c := 1) rfl rfl (by kernel_rfl)
  obtain ⟨y2, t2⟩ := field_in hxl hf 2 _ rfl (T := 22) (o := 2) (c := 1) rfl rfl (by kernel_rfl)
  obtain ⟨a0, e0, _⟩ := int_in t0
  obtain ⟨l1, A1, c1, e1, g1, h1⟩ := strs_in t1
  obtain ⟨l2, A2, c2, e2, g2, h2⟩ := strs_in t2
  simp only [List.drop, List.take, List.cons.injEq, and_true] at e0 e1 e2
  subst e0; subst e1; subst e2
  exact ⟨⟨a0, l1, l2⟩, k31_mk W ⟨a0, l1, l2⟩ g1 h1 g2 h2⟩

/-- The whole numbers of a vote are of their kind. -/
def Wv (v : S33) : Prop := -9223372036854775808 ≤ v.f0 ∧ v.f0 ≤ 9223372036854775807 ∧ -9223372036854775808 ≤ v.f2 ∧ v.f2 ≤ 9223372036854775807

theorem vote_in {n : Nat} {cs : List Value} {x : DataW H × List MemPlace} (h : DataW.trod enc Tryd.prog W 0 spare held n 33 cs = some x) : ∃ a : S33, k33.K W a cs ∧ Wv a := by
  obtain ⟨xs, m, _, _, hl, hxl, hf⟩ := DataW.trod_struct Tryd.underlying33 h
  obtain ⟨v0, v1, v2, v3, v4, v5, v6, rfl⟩ := len7 (hl.trans (by kernel_rfl))
  obtain ⟨y0, t0⟩ := field_in hxl hf 0 _ rfl (T := 3) (o := 0) (c := 1) rfl rfl (by kernel_rfl)
  obtain ⟨y1, t1⟩ := field_in hxl hf 1 _ rfl (T := 9) (o := 1) (c := 1) rfl rfl (by kernel_rfl)
  obtain ⟨y2, t2⟩ := field_in hxl hf 2 _ rfl (T := 3) (o := 2) (c := 1) rfl rfl (by kernel_rfl)
  obtain ⟨y3, t3⟩ := field_in hxl hf 3 _ rfl (T := 4) (o := 3) (c := 1) rfl rfl (by kernel_rfl)
  obtain ⟨y4, t4⟩ := field_in hxl hf 4 _ rfl (T := 31) (o := 4) (c := 3) rfl rfl (by kernel_rfl)
  obtain ⟨a0, e0, b0⟩ := int_in t0
  obtain ⟨a1, e1, _⟩ := str_in t1
  obtain ⟨a2, e2, b2⟩ := int_in t2
  obtain ⟨a3, e3⟩ := bool_in t3
  obtain ⟨s, hs⟩ := seal_in t4
  obtain ⟨A1, c1, A2, c2, e4, g1, h1, g2, h2⟩ := k31_open hs
  simp only [List.drop, List.take, List.cons.injEq, and_true] at e0 e1 e2 e3 e4
  obtain ⟨e4, e5, e6⟩ := e4
  subst e0; subst e1; subst e2; subst e3; subst e4; subst e5; subst e6
  exact ⟨⟨a0, a1, a2, a3, s⟩, k33_mk W ⟨a0, a1, a2, a3, s⟩ g1 h1 g2 h2, b0.1, b0.2, b2.1, b2.2⟩

theorem votes_in {n : Nat} {cs : List Value} {x : DataW H × List MemPlace} (h : DataW.trod enc Tryd.prog W 0 spare held n 25 cs = some x) : ∃ (l : List S33) (A : Option Addr) (c : Nat), cs = [.slice A l.length c] ∧ l.length ≤ c ∧ k33.C W A l.length l ∧ ∀ v ∈ l, Wv v :=
  slice_in Tryd.underlying25 (by kernel_rfl) (fun n cs x h => vote_in h) h

set_option maxRecDepth 100000 in
theorem roll_in {v : Value} {d : DataW H} {p : List MemPlace} {r : Reach} {b0 : Nat} (hv : Value.okWide Tryd.prog W r b0 24 v) (h : DataW.Trod enc Tryd.prog W 0 spare held 24 v d p) :
    ∃ (a0 : Int) (A1 : Option Addr) (c1 : Nat) (l1 : List ByteArray) (a2 a3 a4 : Int), v = .agg #[.int .i64 a0, .slice A1 l1.length c1, .int .i64 a2, .int .i64 a3, .int .i64 a4] ∧ l1.length ≤ c1 ∧ Kd.string.C W A1 l1.length l1 := by
  obtain ⟨cs, rfl, hsz⟩ := okWide_struct Tryd.underlying24 hv
  obtain ⟨fuel, hf⟩ := h
  obtain ⟨xs, m, _, _, hl, hxl, hf⟩ := DataW.trod_struct Tryd.underlying24 hf
  obtain ⟨v0, v1, v2, v3, v4, hcs⟩ := len5 (hl.trans (by kernel_rfl))
  rw [hcs] at hf
  obtain ⟨y0, t0⟩ := field_in hxl hf 0 _ rfl (T := 3) (o := 0) (c := 1) rfl rfl (by kernel_rfl)
  obtain ⟨y1, t1⟩ := field_in hxl hf 1 _ rfl (T := 22) (o := 1) (c := 1) rfl rfl (by kernel_rfl)
  obtain ⟨y2, t2⟩ := field_in hxl hf 2 _ rfl (T := 3) (o := 2) (c := 1) rfl rfl (by kernel_rfl)
  obtain ⟨y3, t3⟩ := field_in hxl hf 3 _ rfl (T := 3) (o := 3) (c := 1) rfl rfl (by kernel_rfl)
  obtain ⟨y4, t4⟩ := field_in hxl hf 4 _ rfl (T := 3) (o := 4) (c := 1) rfl rfl (by kernel_rfl)
  obtain ⟨a0, e0, _⟩ := int_in t0
  obtain ⟨l1, A1, c1, e1, g1, h1⟩ := strs_in t1
  obtain ⟨a2, e2, _⟩ := int_in t2
  obtain ⟨a3, e3, _⟩ := int_in t3
  obtain ⟨a4, e4, _⟩ := int_in t4
  simp only [List.drop, List.take, List.cons.injEq, and_true] at e0 e1 e2 e3 e4
  subst e0; subst e1; subst e2; subst e3; subst e4
  exact ⟨a0, A1, c1, l1, a2, a3, a4, by rw [← Array.toArray_toList (xs := cs)]; exact congrArg (fun l => Value.agg l.toArray) hcs, g1, h1⟩

end
end Go.Proofs.YtoimnllcniefoaaDoor.P
/- The law VoteMany, walked: a certificate's first vote, repeated by members that there are not. -/
namespace Go.Proofs.YtoimnllcniefoaaDoor.P
open Go.RowKit Go.Proofs.YtoimnllcniefoaaDoor Go.Proofs.YtoimnllcniefoaaDoorW.PrintWords Go.Proofs.YtoimnllcniefoaaDoorW.PrintLast Go.Proofs.YtoimnllcniefoaaDoorW.PrintMore
set_option linter.unusedVariables false
set_option linter.unusedSimpArgs false

theorem infoVote : (Tryd.prog.info? 33).map (fun i => (i.zero, i.size, i.bytes)) = some (some (.agg #[.int .i64 0, .string ⟨#[]⟩, .int .i64 0, .bool false, .int .i64 0, .slice none 0 0, .slice none 0 0]), 7, 96) := by kernel_rfl
theorem C_unfix {α : Type} {d : Kd α} {w0 W : World} {A : Option Addr} {n : Nat} {xs : List α} (hb : Below w0.heap.size w0 W) (h : (Kd.fixed d w0).C W A n xs) : d.C W A n xs := by
  refine ⟨h.1, h.2.1, fun hn => ?_⟩
  obtain ⟨ad, e, hc⟩ := h.2.2 hn
  refine ⟨ad, e, fun j p hp => ?_⟩
  obtain ⟨c, h1, h2, h3⟩ := hc j p hp
  exact ⟨c, h1, d.K_below hb h2, h3⟩

theorem one_at2 {l : List Vo.V} {w : World} {A : Option Addr} (h : Kd.C k33 w A l.length l) (j : Nat) (hj : j < l.length) : ∃ ad A5 c5 A6 c6, A = some ad ∧ VoteIs l[j] A5 c5 A6 c6 w ∧ ∀ W : World, Below w.heap.size w W → W.cell? (ad.add (j * 7)) = some (.int .i64 l[j].f0) ∧ W.cell? ⟨(ad.add (j * 7)).block, (ad.add (j * 7)).off + 1, none⟩ = some (.string l[j].f1) ∧ W.cell? ⟨(ad.add (j * 7)).block, (ad.add (j * 7)).off + 2, none⟩ = some (.int .i64 l[j].f2) ∧ W.cell? ⟨(ad.add (j * 7)).block, (ad.add (j * 7)).off + 3, none⟩ = some (.bool l[j].f3) ∧ W.cell? ⟨(ad.add (j * 7)).block, (ad.add (j * 7)).off + 4, none⟩ = some (.int .i64 l[j].f4.f0) ∧ W.cell? ⟨(ad.add (j * 7)).block, (ad.add (j * 7)).off + 5, none⟩ = some (.slice A5 l[j].f4.f1.length c5) ∧ W.cell? ⟨(ad.add (j * 7)).block, (ad.add (j * 7)).off + 6, none⟩ = some (.slice A6 l[j].f4.f2.length c6) := by
  obtain ⟨ad, A5, c5, A6, c6, e, e0, e1, e2, e3, e4, e5, e6, g5, h5, g6, h6⟩ := one_at h (Below.refl _ _) j hj
  have hlt : (ad.add (j * 7)).block < w.heap.size := by
    rcases Nat.lt_or_ge (ad.add (j * 7)).block w.heap.size with h' | h'
    · exact h'
    · unfold World.cell? at e0
      simp [Array.getElem?_eq_none h'] at e0
  refine ⟨ad, A5, c5, A6, c6, e, ⟨g5, h5, g6, h6⟩, fun W hb => ?_⟩
  have hc := fun (o : Nat) => hb.cell (p := ⟨(ad.add (j * 7)).block, o, none⟩) hlt
  have hc0 := hb.cell (p := ad.add (j * 7)) hlt
  exact ⟨hc0.trans e0, (hc _).trans e1, (hc _).trans e2, (hc _).trans e3, (hc _).trans e4, (hc _).trans e5, (hc _).trans e6⟩

/-- The boxes of the two arguments. -/
structure MaS (w : World) (ch : Int) (A1 : Option Addr) (n1 c1 : Nat) (q num den cch : Int) (bill : ByteArray) (A2 : Option Addr) (n2 c2 : Nat) (A : World) : Prop where
  below : Below w.heap.size w A
  ro : A.heap[w.heap.size]? = some (.cells #[.int .i64 ch, .slice A1 n1 c1, .int .i64 q, .int .i64 num, .int .i64 den] 24 (0, 0))
  ce : A.heap[w.heap.size + 1]? = some (.cells #[.int .i64 cch, .string bill, .slice A2 n2 c2] 27 (0, 0))
section
variable {w : World} {ch : Int} {A1 : Option Addr} {n1 c1 : Nat} {q num den cch : Int} {bill : ByteArray} {A2 : Option Addr} {n2 c2 : Nat} {A B : World}
theorem MaS.step (h : MaS w ch A1 n1 c1 q num den cch bill A2 n2 c2 A) (hb : Below A.heap.size A B) : MaS w ch A1 n1 c1 q num den cch bill A2 n2 c2 B := ⟨below_step h.below hb, blk_below h.ro hb, blk_below h.ce hb⟩
theorem MaS.cells (h : MaS w ch A1 n1 c1 q num den cch bill A2 n2 c2 A) :
    A.cell? ⟨w.heap.size, 0, none⟩ = some (.int .i64 ch) ∧ A.cell? ⟨w.heap.size, 1, none⟩ = some (.slice A1 n1 c1) ∧ A.cell? ⟨w.heap.size, 2, none⟩ = some (.int .i64 q) ∧ A.cell? ⟨w.heap.size, 3, none⟩ = some (.int .i64 num) ∧ A.cell? ⟨w.heap.size, 4, none⟩ = some (.int .i64 den) ∧
    A.cell? ⟨w.heap.size + 1, 0, none⟩ = some (.int .i64 cch) ∧ A.cell? ⟨w.heap.size + 1, 1, none⟩ = some (.string bill) ∧ A.cell? ⟨w.heap.size + 1, 2, none⟩ = some (.slice A2 n2 c2) :=
  ⟨(blk_cell h.ro 0).trans rfl, (blk_cell h.ro 1).trans rfl, (blk_cell h.ro 2).trans rfl, (blk_cell h.ro 3).trans rfl, (blk_cell h.ro 4).trans rfl, (blk_cell h.ce 0).trans rfl, (blk_cell h.ce 1).trans rfl, (blk_cell h.ce 2).trans rfl⟩
theorem MaS.new (w : World) (ch : Int) (A1 : Option Addr) (n1 c1 : Nat) (q num den cch : Int) (bill : ByteArray) (A2 : Option Addr) (n2 c2 : Nat) : MaS w ch A1 n1 c1 q num den cch bill A2 n2 c2 ((w.alloc (.cells #[.int .i64 ch, .slice A1 n1 c1, .int .i64 q, .int .i64 num, .int .i64 den] 24)).alloc (.cells #[.int .i64 cch, .string bill, .slice A2 n2 c2] 27)) :=
  ⟨upB (Below.refl _ _), blk_below (blk_new _ _) (upB (Below.refl _ _)), blk_one _ _ _⟩
theorem MaS.grown (h : MaS w ch A1 n1 c1 q num den cch bill A2 n2 c2 A) {v : Value} {α : Type} {d : Kd α} {xs : List α} {e : Nat} (hr : d.R e A w.heap.size (fun k => k ≠ w.heap.size ∧ k ≠ w.heap.size + 1) v xs) (hb : Below w.heap.size w B) (hg : A.grownBy B v.ownBlock) : MaS w ch A1 n1 c1 q num den cch bill A2 n2 c2 B :=
  ⟨hb, blk_grown h.ro hg (fun e => (hr.1 _ e.symm).1 rfl), blk_grown h.ce hg (fun e => (hr.1 _ e.symm).2 rfl)⟩
end

end Go.Proofs.YtoimnllcniefoaaDoor.P
/- The law VoteOthers, walked: the votes that count, from the last to the first. -/
namespace Go.Proofs.YtoimnllcniefoaaDoor.Vo
open Go Go.Proofs.YtoimnllcniefoaaDoor Go.Proofs.YtoimnllcniefoaaDoor.P
section
variable {ok : V → Bool}
theorem kept_from (l : List V) (j : Nat) : ∀ n, j ≤ n → n ≤ l.length → ∃ t : List V, kept ok l n = kept ok l j ++ t := by
  intro n
  induction n with
  | zero => intro h _; obtain rfl : j = 0 := by omega
            exact ⟨[], by simp⟩
  | succ n ih =>
    intro h hn
    by_cases e : j = n + 1
    · subst e; exact ⟨[], by simp⟩
    · obtain ⟨t, h1⟩ := ih (by omega) (by omega)
      rw [kept_succ _ _ (by omega)]
      split
      · exact ⟨t ++ [l[n]], by rw [h1, List.append_assoc]⟩
      · exact ⟨t, h1⟩
theorem kept_grow (l : List V) (j : Nat) : ∀ n, j ≤ n → n ≤ l.length → (kept ok l n).length ≤ (kept ok l j).length + (n - j) := by
  intro n
  induction n with
  | zero => intro h _; obtain rfl : j = 0 := by omega
            exact Nat.le_add_right _ _
  | succ n ih =>
    intro h hn
    by_cases e : j = n + 1
    · subst e; exact Nat.le_add_right _ _
    · have h1 := ih (by omega) (by omega)
      rw [kept_succ _ _ (by omega)]
      split
      · rw [List.length_append, List.length_cons, List.length_nil]; omega
      · omega
/-- The votes that count, from the last one back to number j. -/
def backTo (ok : V → Bool) (l : List V) (j : Nat) : List V := ((kept ok l l.length).drop (kept ok l j).length).reverse
theorem backTo_len (l : List V) : backTo ok l l.length = [] := by unfold backTo; simp
theorem backTo_zero (l : List V) : backTo ok l 0 = (kept ok l l.length).reverse := rfl
theorem backTo_length (l : List V) (j : Nat) (h : j ≤ l.length) : (backTo ok l j).length + j ≤ l.length := by
  have := kept_grow (ok := ok) l j l.length h (Nat.le_refl _)
  unfold backTo
  rw [List.length_reverse, List.length_drop]
  omega
theorem backTo_step (l : List V) (j : Nat) (h : j < l.length) : backTo ok l j = if counts ok (cnt ok l j) l[j] = true then backTo ok l (j + 1) ++ [l[j]] else backTo ok l (j + 1) := by
  obtain ⟨t, ht⟩ := kept_from (ok := ok) l (j + 1) l.length (by omega) (Nat.le_refl _)
  unfold backTo
  rw [ht, kept_succ _ _ h]
  split
  · rename_i hc
    rw [List.drop_left, List.append_assoc, List.drop_left]
    simp
  · rfl
theorem bad_lt (l : List V) : ∀ j, j ≤ l.length → ∀ x ∈ (cnt ok l j).bad, x < (j : Int) := by
  intro j
  induction j with
  | zero => intro _ x hx; cases hx
  | succ j ih =>
    intro h x hx
    rw [cnt_succ _ _ h] at hx
    unfold step at hx
    split at hx
    · have hx2 : x ∈ (cnt ok l j).bad := by split at hx <;> exact hx
      have := ih (by omega) x hx2
      omega
    · rcases List.mem_append.1 hx with hx | hx
      · have := ih (by omega) x hx
        omega
      · rw [List.mem_singleton.1 hx]; omega

/-- What the loop meets at number j. -/
theorem others_no (l : List V) (j : Nat) (h : j < l.length) (hc : counts ok (cnt ok l j) l[j] = false) : (cnt ok l (j + 1)).bad.length = (cnt ok l j).bad.length + 1 ∧ (cnt ok l l.length).bad[(cnt ok l j).bad.length]? = some (j : Int) ∧ backTo ok l j = backTo ok l (j + 1) := by
  have hn := bad_next (ok := ok) l j l.length h (Nat.le_refl _)
  rw [if_neg (by rw [hc]; decide)] at hn
  refine ⟨?_, hn, ?_⟩
  · rw [cnt_succ _ _ h]; unfold step; rw [if_neg (by rw [hc]; decide)]; simp
  · rw [backTo_step _ _ h, if_neg (by rw [hc]; decide)]
theorem others_yes (l : List V) (j : Nat) (h : j < l.length) (hc : counts ok (cnt ok l j) l[j] = true) : (cnt ok l (j + 1)).bad.length = (cnt ok l j).bad.length ∧ (0 < (cnt ok l j).bad.length → ∃ b, (cnt ok l l.length).bad[(cnt ok l j).bad.length - 1]? = some b ∧ b ≠ (j : Int)) ∧ backTo ok l j = backTo ok l (j + 1) ++ [l[j]] := by
  refine ⟨?_, ?_, ?_⟩
  · rw [cnt_succ _ _ h]; unfold step; rw [if_pos hc]; split <;> rfl
  · intro h0
    obtain ⟨t, ht, _⟩ := bad_from (ok := ok) l j l.length (by omega) (Nat.le_refl _)
    have hlt : (cnt ok l j).bad.length - 1 < (cnt ok l j).bad.length := by omega
    refine ⟨(cnt ok l j).bad[(cnt ok l j).bad.length - 1], ?_, ?_⟩
    · rw [ht, List.getElem?_append_left hlt, List.getElem?_eq_getElem hlt]
    · have := bad_lt (ok := ok) l j (by omega) _ (List.getElem_mem hlt)
      omega
  · rw [backTo_step _ _ h, if_pos hc]
end
end Go.Proofs.YtoimnllcniefoaaDoor.Vo
namespace Go.Proofs.YtoimnllcniefoaaDoor.P
open Go.RowKit Go.Proofs.YtoimnllcniefoaaDoor Go.Proofs.YtoimnllcniefoaaDoorW.PrintWords Go.Proofs.YtoimnllcniefoaaDoorW.PrintLast Go.Proofs.YtoimnllcniefoaaDoorW.PrintMore
set_option linter.unusedVariables false
set_option linter.unusedSimpArgs false

/-- The box of the roll. -/
structure RoS (w : World) (ch : Int) (A1 : Option Addr) (n1 c1 : Nat) (q num den : Int) (A : World) : Prop where
  below : Below w.heap.size w A
  ro : A.heap[w.heap.size]? = some (.cells #[.int .i64 ch, .slice A1 n1 c1, .int .i64 q, .int .i64 num, .int .i64 den] 24 (0, 0))
section
variable {w : World} {ch : Int} {A1 : Option Addr} {n1 c1 : Nat} {q num den : Int} {A B : World}
theorem RoS.step (h : RoS w ch A1 n1 c1 q num den A) (hb : Below A.heap.size A B) : RoS w ch A1 n1 c1 q num den B := ⟨below_step h.below hb, blk_below h.ro hb⟩
theorem RoS.cells (h : RoS w ch A1 n1 c1 q num den A) : A.cell? ⟨w.heap.size, 0, none⟩ = some (.int .i64 ch) ∧ A.cell? ⟨w.heap.size, 1, none⟩ = some (.slice A1 n1 c1) ∧ A.cell? ⟨w.heap.size, 2, none⟩ = some (.int .i64 q) ∧ A.cell? ⟨w.heap.size, 3, none⟩ = some (.int .i64 num) ∧ A.cell? ⟨w.heap.size, 4, none⟩ = some (.int .i64 den) :=
  ⟨(blk_cell h.ro 0).trans rfl, (blk_cell h.ro 1).trans rfl, (blk_cell h.ro 2).trans rfl, (blk_cell h.ro 3).trans rfl, (blk_cell h.ro 4).trans rfl⟩
theorem RoS.new (w : World) (ch : Int) (A1 : Option Addr) (n1 c1 : Nat) (q num den : Int) : RoS w ch A1 n1 c1 q num den (w.alloc (.cells #[.int .i64 ch, .slice A1 n1 c1, .int .i64 q, .int .i64 num, .int .i64 den] 24)) :=
  ⟨upB (Below.refl _ _), blk_new _ _⟩
end

theorem int_at {w W : World} {A : Option Addr} {l : List Int} (h : Kd.C (Kd.int .i64) w A l.length l) (hb : Below w.heap.size w W) (q : Nat) (b : Int) (hq : l[q]? = some b) : ∃ ad, A = some ad ∧ W.cell? (ad.add q) = some (.int .i64 b) := by
  obtain ⟨hlt, rfl⟩ := List.getElem?_eq_some_iff.1 hq
  obtain ⟨ad, e, hc⟩ := Kd.at_int (Kd.C_below h hb) (q : Int) (by omega) (by omega)
  refine ⟨ad, e, ?_⟩
  rw [Int.toNat_natCast] at hc
  rw [hc]
  show some (Value.int .i64 (l.getD (Int.toNat (q : Int)) 0)) = _
  rw [Int.toNat_natCast, List.getD_eq_getElem?_getD, List.getElem?_eq_getElem hlt]
  rfl

set_option maxHeartbeats 8000000 in
set_option maxRecDepth 100000 in
theorem others_few (ch : Int) (A1 : Option Addr) (c1 : Nat) (l1 : List ByteArray) (q num den : Int) (text : ByteArray) (A2 : Option Addr) (c2 : Nat) (l2 : List Vo.V) (w : World) (hr1 : Kd.C Kd.string w A1 l1.length l1) (hc1 : l1.length ≤ c1) (hr2 : Kd.C k33 w A2 l2.length l2) (hc2 : l2.length ≤ c2) (hT : Tabs w)
    (hf : pandectlaw39_few.f 5000 ch l1 q num den l2 = some false) :
    Calls Tryd.prog 5 #[.agg #[.int .i64 ch, .slice A1 l1.length c1, .int .i64 q, .int .i64 num, .int .i64 den], .string text, .slice A2 l2.length c2] w fun e w' => e = .returned (.bool true) ∧ Below w.heap.size w w' := by
  have HS := Lib.hid (RoS.new w ch A1 l1.length c1 q num den)
  have HH := Lib.hid (fun W hT => pandectlaw39_head.calls 5000 true W hT (head_is 5000 (by decide)))
  have HF := Lib.hid (fun W (hb : Below w.heap.size w W) => pandectlaw39_few.calls 5000 ch A1 c1 l1 q num den A2 c2 l2 false W (Kd.C_below hr1 hb) hc1 (Kd.C_below hr2 hb) hc2 hf)
  have HT := Lib.hid hT
  clear hr1 hc1 hr2 hc2 hT hf
  go_enter Tryd.func5, Tryd.ntmps5
  go_wp2_with fail
  refine (HH.out _ (tabs_below HT.out HS.out.below)).mono ?_
  rintro e w1 ⟨rfl, hb⟩
  replace HS := Lib.hid (HS.out.step hb)
  clear hb
  obtain ⟨q0, q1, q2, q3, q4⟩ := HS.out.cells
  go_wp2_with fail
  refine (HF.out _ HS.out.below).mono ?_
  rintro e w2 ⟨rfl, hb⟩
  replace HS := Lib.hid (HS.out.step hb)
  clear hb q0 q1 q2 q3 q4
  go_wp2
  go_ret
  exact ⟨rfl, HS.out.below⟩
set_option maxHeartbeats 8000000 in
set_option maxRecDepth 100000 in
theorem others_long (ch : Int) (A1 : Option Addr) (c1 : Nat) (l1 : List ByteArray) (q num den : Int) (text : ByteArray) (A2 : Option Addr) (c2 : Nat) (l2 : List Vo.V) (w : World) (hr1 : Kd.C Kd.string w A1 l1.length l1) (hc1 : l1.length ≤ c1) (hr2 : Kd.C k33 w A2 l2.length l2) (hc2 : l2.length ≤ c2) (hT : Tabs w)
    (hf : pandectlaw39_few.f 5000 ch l1 q num den l2 = some true) (hlen : 100 < text.size) :
    Calls Tryd.prog 5 #[.agg #[.int .i64 ch, .slice A1 l1.length c1, .int .i64 q, .int .i64 num, .int .i64 den], .string text, .slice A2 l2.length c2] w fun e w' => e = .returned (.bool true) ∧ Below w.heap.size w w' := by
  have HS := Lib.hid (RoS.new w ch A1 l1.length c1 q num den)
  have HH := Lib.hid (fun W hT => pandectlaw39_head.calls 5000 true W hT (head_is 5000 (by decide)))
  have HF := Lib.hid (fun W (hb : Below w.heap.size w W) => pandectlaw39_few.calls 5000 ch A1 c1 l1 q num den A2 c2 l2 true W (Kd.C_below hr1 hb) hc1 (Kd.C_below hr2 hb) hc2 hf)
  have HT := Lib.hid hT
  have hlen' : (100 : Int) < (text.size : Int) := by omega
  clear hr1 hc1 hr2 hc2 hT hf
  go_enter Tryd.func5, Tryd.ntmps5
  go_wp2_with fail
  refine (HH.out _ (tabs_below HT.out HS.out.below)).mono ?_
  rintro e w1 ⟨rfl, hb⟩
  replace HS := Lib.hid (HS.out.step hb)
  clear hb
  obtain ⟨q0, q1, q2, q3, q4⟩ := HS.out.cells
  go_wp2_with fail
  refine (HF.out _ HS.out.below).mono ?_
  rintro e w2 ⟨rfl, hb⟩
  replace HS := Lib.hid (HS.out.step hb)
  clear hb q0 q1 q2 q3 q4
  go_wp2
  go_ret
  exact ⟨rfl, HS.out.below⟩

set_option maxHeartbeats 8000000 in
set_option maxRecDepth 100000 in
theorem others_yes (ch : Int) (A1 : Option Addr) (c1 : Nat) (l1 : List ByteArray) (q num den : Int) (text : ByteArray) (A2 : Option Addr) (c2 : Nat) (l2 : List Vo.V) (w : World) (hr1 : Kd.C Kd.string w A1 l1.length l1) (hc1 : l1.length ≤ c1) (hr2 : Kd.C k33 w A2 l2.length l2) (hc2 : l2.length ≤ c2) (hT : Tabs w)
    (hf : pandectlaw39_few.f 5000 ch l1 q num den l2 = some true) (hlen : text.size ≤ 100) (h8 : l2.length ≤ 8) (Y N : Int) (B : List Int) (cf : Nat → Bool) (kb : Nat → Nat) (bk : Nat → List Vo.V)
    (hcn : vote_Count.f 5000 ch l1 q num den text l2 = some (Y, N, B)) (hcn2 : vote_Count.f 5000 ch l1 q num den text (bk 0) = some (Y, N, [])) (hbl : ∀ j, j ≤ l2.length → (bk j).length + j ≤ l2.length) (hb0 : bk l2.length = []) (hk0 : kb l2.length = B.length) (hBl : B.length ≤ 8)
    (hno : ∀ (j : Nat) (h : j < l2.length), cf j = false → kb (j + 1) = kb j + 1 ∧ B[kb j]? = some (j : Int) ∧ bk j = bk (j + 1))
    (hyes : ∀ (j : Nat) (h : j < l2.length), cf j = true → kb (j + 1) = kb j ∧ (0 < kb j → ∃ b, B[kb j - 1]? = some b ∧ b ≠ (j : Int)) ∧ bk j = bk (j + 1) ++ [l2[j]]) :
    Calls Tryd.prog 5 #[.agg #[.int .i64 ch, .slice A1 l1.length c1, .int .i64 q, .int .i64 num, .int .i64 den], .string text, .slice A2 l2.length c2] w fun e w' => e = .returned (.bool true) ∧ Below w.heap.size w w' := by
  have HS := Lib.hid (RoS.new w ch A1 l1.length c1 q num den)
  have HH := Lib.hid (fun W hT => pandectlaw39_head.calls 5000 true W hT (head_is 5000 (by decide)))
  have HF := Lib.hid (fun W (hb : Below w.heap.size w W) => pandectlaw39_few.calls 5000 ch A1 c1 l1 q num den A2 c2 l2 true W (Kd.C_below hr1 hb) hc1 (Kd.C_below hr2 hb) hc2 hf)
  have HT := Lib.hid hT
  have hlen' : (text.size : Int) ≤ 100 := by omega
  have HR1 := Lib.hid hr1
  have HC1 := Lib.hid hc1
  have HR2 := Lib.hid hr2
  have HC2 := Lib.hid hc2
  have HCN := Lib.hid hcn
  have HCN2 := Lib.hid hcn2
  have HBL := Lib.hid hbl
  have HB0 := Lib.hid hb0
  have HK0 := Lib.hid hk0
  have HNO := Lib.hid hno
  have HYES := Lib.hid hyes
  clear hcn hcn2 hbl hb0 hk0 hno hyes
  clear hr1 hc1 hr2 hc2 hT hf
  go_enter Tryd.func5, Tryd.ntmps5
  go_wp2_with fail
  refine (HH.out _ (tabs_below HT.out HS.out.below)).mono ?_
  rintro e w1 ⟨rfl, hb⟩
  replace HS := Lib.hid (HS.out.step hb)
  clear hb
  obtain ⟨q0, q1, q2, q3, q4⟩ := HS.out.cells
  go_wp2_with fail
  refine (HF.out _ HS.out.below).mono ?_
  rintro e w2 ⟨rfl, hb⟩
  replace HS := Lib.hid (HS.out.step hb)
  clear hb q0 q1 q2 q3 q4
  obtain ⟨q0, q1, q2, q3, q4⟩ := HS.out.cells
  go_wp2_with fail
  refine (vote_Count.calls 5000 ch A1 c1 l1 q num den text A2 c2 l2 Y N B _ (Kd.C_below HR1.out HS.out.below) HC1.out (Kd.C_below HR2.out HS.out.below) HC2.out (tabs_below HT.out HS.out.below) HCN.out).mono ?_
  rintro e w3 ⟨vb, rfl, hrb, hb⟩
  replace HS := Lib.hid (HS.out.step hb)
  obtain ⟨AB, cB, rfl, gB, hCB⟩ := Kd.R_reads hrb
  have HCB := Lib.hid hCB
  clear hb hrb hCB q0 q1 q2 q3 q4
  go_wp2_with fail
  go_loopw [11, 12, 13] (fun v kv iv wr => ∃ (m : Nat) (i k : Int), m ≤ l2.length ∧ iv = .int .i64 i ∧ kv = .int .i64 k ∧ Hid (i = (m : Int) - 1) ∧ Hid (k = (kb m : Int) - 1) ∧ Hid (kb m ≤ B.length) ∧ Hid (Below w3.heap.size w3 wr) ∧ Hid ((Kd.fixed k33 w).R 33 wr w3.heap.size (fun _ => True) v (bk m))) (fun _ _ i _ => (intOf i + 1).toNat)
  case atStart =>
    refine ⟨l2.length, _, _, Nat.le_refl _, rfl, rfl, Lib.hid rfl, Lib.hid (by rw [HK0.out]), Lib.hid (by rw [HK0.out]; exact Nat.le_refl _), Lib.hid (Below.refl _ _), Lib.hid ?_⟩
    rw [HB0.out]
    exact Kd.R_nil _ _ _ _ _
  case round =>
    obtain ⟨m, i, k, hm, rfl, rfl, HI, HK, HKL, HW, HR⟩ := hrel
    rcases m with _ | j
    · have hi : i < 0 := by have := HI.out; omega
      obtain ⟨A, c, eV, gl, hC⟩ := Kd.R_reads HR.out
      have hC2 := C_unfix (below_step HS.out.below HW.out) hC
      subst eV
      have HS3 := Lib.hid (HS.out.step HW.out)
      obtain ⟨q0, q1, q2, q3, q4⟩ := HS3.out.cells
      have HGL := Lib.hid gl
      have HC3 := Lib.hid hC2
      clear gl hC hC2
      go_wp2_with fail
      refine (vote_Count.calls 5000 ch A1 c1 l1 q num den text A c (bk 0) Y N [] _ (Kd.C_below HR1.out HS3.out.below) HC1.out HC3.out HGL.out (tabs_below HT.out HS3.out.below) HCN2.out).mono ?_
      rintro e w5 ⟨vn, rfl, hrn, hb⟩
      replace HS3 := Lib.hid (HS3.out.step hb)
      obtain ⟨An, cn, rfl, gn, hCn⟩ := Kd.R_reads hrn
      clear hb hrn hCn gn q0 q1 q2 q3 q4
      go_wp2
      go_ret
      exact ⟨rfl, HS3.out.below⟩
    · have hlt : j < l2.length := by omega
      obtain rfl : i = (j : Int) := by have := HI.out; omega
      obtain ⟨ad, A5, c5, A6, c6, rfl, vis, hone⟩ := one_at2 HR2.out j hlt
      obtain ⟨e0, e1, e2, e3, e4, e5, e6⟩ := hone _ (below_step HS.out.below HW.out)
      have HVI := Lib.hid vis
      clear hone vis
      cases hcf : cf j with
      | false =>
        obtain ⟨k1, k2, k3⟩ := HNO.out j hlt hcf
        have hk : k = ((kb j : Nat) : Int) := by have := HK.out; rw [k1] at this; omega
        subst hk
        obtain ⟨adB, eB, hB⟩ := int_at HCB.out HW.out _ _ k2
        have hkl : kb j < B.length := (List.getElem?_eq_some_iff.1 k2).1
        have HKJ : Hid (((kb j : Nat) : Int) - 1 = ((kb j : Nat) : Int) - 1) := Lib.hid rfl
        rw [← k3] at HR
        have HKL2 : Hid (kb j ≤ B.length) := Lib.hid (by omega)
        clear HK k1 k2 k3 hcf HKL HI
        generalize hq : kb j = q' at *
        have HQ := Lib.hid hq
        clear hq
        have hkl' : (q' : Int) < (B.length : Int) := by omega
        subst eB
        go_wp2
        go_roundw
        case rel => exact ⟨j, _, _, by omega, rfl, rfl, Lib.hid rfl, Lib.hid (by rw [HQ.out]), Lib.hid (by rw [HQ.out]; exact HKL2.out), HW, HR⟩
        case measure => simp [intOf]
      | true =>
        obtain ⟨k1, k2, k3⟩ := HYES.out j hlt hcf
        have hlb := HBL.out (j + 1) (by omega)
        have HLB := Lib.hid (show (bk (j + 1)).length ≤ 8 by omega)
        have HKV : Hid (k = (kb j : Int) - 1) := Lib.hid (by have := HK.out; rw [k1] at this; exact this)
        have HKL2 : Hid (kb j ≤ B.length) := Lib.hid (by have := HKL.out; rw [k1] at this; exact this)
        have HK2 := Lib.hid k2
        have HK3 := Lib.hid k3
        clear k1 k2 k3 hlb hcf HK HKL HI
        obtain ⟨x, hx⟩ : ∃ x, x = l2[j] := ⟨_, rfl⟩
        rw [← hx] at HVI e0 e1 e2 e3 e4 e5 e6 HK3
        clear hx
        rcases Nat.eq_zero_or_pos (kb j) with hz | hp
        · have hk0 : k < 0 := by have := HKV.out; rw [hz] at this; omega
          clear hz
          go_wp2_with (at_builtin; refine Kd.R_append (Kd.fixed k33 w) (w0 := w3) w3.heap.size rfl (.tmp 64) (.tmp 69) 25 33 _ 96 rfl Tryd.underlying25 infoVote rfl (by show 0 < 7; decide) (by omega) u11 (bk (j + 1)) x [.int .i64 x.f0, .string x.f1, .int .i64 x.f2, .bool x.f3, .int .i64 x.f4.f0, .slice A5 x.f4.f1.length c5, .slice A6 x.f4.f2.length c6] (fun _ => True) (fun _ => False) rfl rfl ?aP (fun _ hk => hk.elim) ?aF ?aO ?aB ?aS ?aL ?_; (case aP => exact HVI.out.k); (case aF => exact fun _ _ => trivial); (case aO => exact HR.out); (case aB => exact HW.out); (case aS => exact HW.out.size); (case aL => have := HLB.out; omega); intro v1 w9 ho hb hg hat)
          rw [← HK3.out] at ho
          have HR2' := Lib.hid ho
          have HW2 := Lib.hid hb
          clear ho hb hg hat
          go_wp2
          go_roundw
          case rel => exact ⟨j, _, _, by omega, rfl, rfl, Lib.hid rfl, Lib.hid HKV.out, Lib.hid HKL2.out, HW2, HR2'⟩
          case measure => simp [intOf]
        · obtain ⟨b, hb1, hb2⟩ := HK2.out hp
          have hkb : k = ((kb j - 1 : Nat) : Int) := by have := HKV.out; omega
          have hkl : kb j - 1 < B.length := (List.getElem?_eq_some_iff.1 hb1).1
          obtain ⟨adB, eB, hB⟩ := int_at HCB.out HW.out _ _ hb1
          obtain ⟨q', hq'⟩ : ∃ q', q' = kb j - 1 := ⟨_, rfl⟩
          rw [← hq'] at hkb hkl hB
          subst hkb
          have hkl' : (q' : Int) < (B.length : Int) := by omega
          have hne : (b == (j : Int)) = false := beq_eq_false_iff_ne.2 hb2
          have hne2 : decide (b = (j : Int)) = false := decide_eq_false hb2
          subst eB
          clear hp hb1 hb2 hq' hkl
          go_wp2_with (at_builtin; refine Kd.R_append (Kd.fixed k33 w) (w0 := w3) w3.heap.size rfl (.tmp 64) (.tmp 69) 25 33 _ 96 rfl Tryd.underlying25 infoVote rfl (by show 0 < 7; decide) (by omega) u11 (bk (j + 1)) x [.int .i64 x.f0, .string x.f1, .int .i64 x.f2, .bool x.f3, .int .i64 x.f4.f0, .slice A5 x.f4.f1.length c5, .slice A6 x.f4.f2.length c6] (fun _ => True) (fun _ => False) rfl rfl ?aP (fun _ hk => hk.elim) ?aF ?aO ?aB ?aS ?aL ?_; (case aP => exact HVI.out.k); (case aF => exact fun _ _ => trivial); (case aO => exact HR.out); (case aB => exact HW.out); (case aS => exact HW.out.size); (case aL => have := HLB.out; omega); intro v1 w9 ho hb hg hat)
          rw [← HK3.out] at ho
          have HR2' := Lib.hid ho
          have HW2 := Lib.hid hb
          clear ho hb hg hat
          go_wp2
          go_roundw
          case rel => exact ⟨j, _, _, by omega, rfl, rfl, Lib.hid rfl, Lib.hid HKV.out, Lib.hid HKL2.out, HW2, HR2'⟩
          case measure => simp [intOf]


def pandectlaw39_VoteOthers.f (k : Nat) (a0 : Int) (l0 : List ByteArray) (a1 a2 a3 : Int) (a4 : ByteArray) (l5 : List Vo.V) : Option Bool := some true
theorem pandectlaw39_VoteOthers.calls (k : Nat) (ch : Int) (A1 : Option Addr) (c1 : Nat) (l1 : List ByteArray) (q num den : Int) (text : ByteArray) (A2 : Option Addr) (c2 : Nat) (l2 : List Vo.V) (r : Bool) (w : World) (hr1 : Kd.C Kd.string w A1 l1.length l1) (hc1 : l1.length ≤ c1) (hr2 : Kd.C k33 w A2 l2.length l2) (hc2 : l2.length ≤ c2) (hT : Tabs w)
    (h : pandectlaw39_VoteOthers.f k ch l1 q num den text l2 = some r) :
    Calls Tryd.prog 5 #[.agg #[.int .i64 ch, .slice A1 l1.length c1, .int .i64 q, .int .i64 num, .int .i64 den], .string text, .slice A2 l2.length c2] w fun e w' => e = .returned (.bool r) ∧ Below w.heap.size w w' := by
  cases h
  obtain ⟨b, hb, hb2⟩ := few_is ch l1 q num den l2 5000 (by decide)
  cases b with
  | false => exact others_few ch A1 c1 l1 q num den text A2 c2 l2 w hr1 hc1 hr2 hc2 hT hb
  | true =>
    obtain ⟨f1, f2, f3, f4⟩ := hb2 rfl
    by_cases ht : 100 < text.size
    · exact others_long ch A1 c1 l1 q num den text A2 c2 l2 w hr1 hc1 hr2 hc2 hT hb ht
    · have hc := count_is 5000 (by decide) ch l1 q num den text (by omega) l2 (by omega)
      have hbk := Vo.backTo_length (ok := Vo.okv ch l1 q num den text) l2
      have hc2' := count_is 5000 (by decide) ch l1 q num den text (by omega) (Vo.backTo (Vo.okv ch l1 q num den text) l2 0) (by have := hbk 0 (by omega); omega)
      obtain ⟨b1, b2, b3⟩ := Vo.cnt_back (ok := Vo.okv ch l1 q num den text) l2
      have hi := Vo.count_inv ch l1 q num den text l2
      rw [Vo.backTo_zero] at hc2'
      have hc3 : vote_Count.f 5000 ch l1 q num den text (Vo.backTo (Vo.okv ch l1 q num den text) l2 0) = some ((Vo.count ch l1 q num den text l2).yes, (Vo.count ch l1 q num den text l2).no, []) := by
        rw [Vo.backTo_zero, hc2']
        unfold Vo.count
        rw [b1, b2, b3]
      refine others_yes ch A1 c1 l1 q num den text A2 c2 l2 w hr1 hc1 hr2 hc2 hT hb (by omega) f1 _ _ _ (fun j => match l2[j]? with | some v => Vo.counts (Vo.okv ch l1 q num den text) (Vo.cnt (Vo.okv ch l1 q num den text) l2 j) v | none => false) (fun j => (Vo.cnt (Vo.okv ch l1 q num den text) l2 j).bad.length) (Vo.backTo (Vo.okv ch l1 q num den text) l2) hc hc3 hbk (Vo.backTo_len _) rfl (by omega) ?_ ?_
      · intro j hj hcf
        rw [List.getElem?_eq_getElem hj] at hcf
        exact Vo.others_no l2 j hj hcf
      · intro j hj hcf
        rw [List.getElem?_eq_getElem hj] at hcf
        exact Vo.others_yes l2 j hj hcf
end Go.Proofs.YtoimnllcniefoaaDoor.P
