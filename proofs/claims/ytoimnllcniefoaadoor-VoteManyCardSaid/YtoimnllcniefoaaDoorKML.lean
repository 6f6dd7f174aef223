import Derived.Test.YtoimnllcniefoaaDoorTie
import Derived.Test.YtoimnllcniefoaaDoorKPx0
import Derived.Test.YtoimnllcniefoaaDoorKPx1
import Derived.Test.YtoimnllcniefoaaDoorKPx2
import Derived.Test.YtoimnllcniefoaaDoorKPx3
import Derived.Test.YtoimnllcniefoaaDoorKPx4
import Derived.Test.YtoimnllcniefoaaDoorKPx6
import Derived.Test.YtoimnllcniefoaaDoorKMPx7
import Derived.Test.YtoimnllcniefoaaDoorKD
import Derived.Test.YtoimnllcniefoaaDoorKTa
import Derived.Test.YtoimnllcniefoaaDoorKVa
import Derived.Test.YtoimnllcniefoaaDoorKVb
import Derived.ProofKit
import Derived.OpenShut
import Derived.ShutString
import Derived.LaidMore
import Derived.LaidSub
import Derived.Lay
import Derived.SevenTiedAt
import Derived.Stop.Joined
import Derived.SliceStrings
import Derived.Lib.SmallJoins
import Derived.Test.YtoimnllcniefoaaDoorKMV
set_option linter.unusedVariables false
set_option linter.unusedSimpArgs false
/- What every row of the seat needs: the listed variables, the table that strconv.Itoa reads, a slice of strings as an argument. -/
namespace Go.Proofs.YtoimnllcniefoaaDoor.P
open Go.ChangeShapes Go.WideShapes Go.ChangeAt Go.RowKit
open Go.Proofs.YtoimnllcniefoaaDoor Go.Proofs.YtoimnllcniefoaaDoorW.PrintWords Go.Proofs.YtoimnllcniefoaaDoorW.PrintLast Go.Proofs.YtoimnllcniefoaaDoorW.PrintMore
set_option linter.unusedVariables false

theorem own : ownKnob Tryd.prog.godebug = none := by kernel_rfl
theorem laidOut : laidOutB Tryd.prog = true := by kernel_rfl
def laid : List (String × DataW Unit) := [("math/bits.deBruijn32tab", Rows.laid_math_bits_deBruijn32tab), ("math/bits.deBruijn64tab", Rows.laid_math_bits_deBruijn64tab), ("internal/strconv.uint64pow10", Rows.laid_internal_strconv_uint64pow10), ("unicode/utf8.acceptRanges", Rows.laid_unicode_utf8_acceptRanges), ("unicode/utf8.first", Rows.laid_unicode_utf8_first)]

theorem tabs_of_laid {W : World} (h : laidMetH Tryd.prog laid W) : Tabs W := by
  have h2 := h.filter (fun x => x.1 == "internal/strconv.uint64pow10")
  have e : laid.filter (fun x => x.1 == "internal/strconv.uint64pow10") = [("internal/strconv.uint64pow10", Lib.tabData .u64 Lib.pow10Tab)] := by kernel_rfl
  rw [e, MakeChecks.laidMetH_plain _ _ _ (by kernel_rfl)] at h2
  exact Lib.tabIs_of_head tabs_global (t := 138) (e := 80) (n := 20) (by kernel_rfl) Tryd.underlying138 Tryd.underlying80 (by kernel_rfl) (by kernel_rfl) h2

/-- The witness: a start in which the listed variables read as the row says. -/
theorem laid_met (os : Os) (args : Array Value) : laidMetH Tryd.prog laid ((World.laidAll Tryd.prog os laid).forCall (fun _ _ => 0) ⟨#[], args, []⟩).memory := by
  rw [MakeChecks.laidMetH_plain _ _ _ (by kernel_rfl)]
  exact laidMet_laidAll _ (by kernel_rfl) (by kernel_rfl)
theorem laid_shaped (os : Os) (args : Array Value) : ((World.laidAll Tryd.prog os laid).forCall (fun _ _ => 0) ⟨#[], args, []⟩).Shaped Tryd.prog :=
  World.shaped_of_ZipB (by kernel_rfl) (by kernel_rfl)

end Go.Proofs.YtoimnllcniefoaaDoor.P
/- Arguments that came in, as the print reads them: slices of whatever, seals, votes, rolls, certificates. -/
namespace Go.Proofs.YtoimnllcniefoaaDoor.P
open Go.ChangeShapes Go.WideShapes Go.ChangeAt Go.RowKit
open Go.Proofs.YtoimnllcniefoaaDoor Go.Proofs.YtoimnllcniefoaaDoorW.PrintWords Go.Proofs.YtoimnllcniefoaaDoorW.PrintLast Go.Proofs.YtoimnllcniefoaaDoorW.PrintMore
set_option linter.unusedVariables false

section
variable {H : Type} {enc : TypeId × Value → H} {W : World} {spare : Nat → Bool} {held : Bool}
theorem int_in {n : Nat} {cs : List Value} {x : DataW H × List MemPlace} (h : DataW.trod enc Tryd.prog W 0 spare held n 3 cs = some x) : ∃ a : Int, cs = [.int .i64 a] ∧ -9223372036854775808 ≤ a ∧ a ≤ 9223372036854775807 := by
  obtain ⟨a, e, _, hw⟩ := DataW.trod_int Tryd.underlying3 h
  refine ⟨a, e, ?_⟩
  simp [Lit.wf, IntKind.min, IntKind.max, IntKind.signed, IntKind.bits] at hw
  omega
theorem str_in {n : Nat} {cs : List Value} {x : DataW H × List MemPlace} (h : DataW.trod enc Tryd.prog W 0 spare held n 9 cs = some x) : ∃ a : ByteArray, cs = [.string a] ∧ a.size ≤ 9223372036854775807 := by
  obtain ⟨a, e, _, hw⟩ := DataW.trod_string Tryd.underlying9 h
  exact ⟨a, e, hw⟩
theorem bool_in {n : Nat} {cs : List Value} {x : DataW H × List MemPlace} (h : DataW.trod enc Tryd.prog W 0 spare held n 4 cs = some x) : ∃ a : Bool, cs = [.bool a] := by
  obtain ⟨a, e, _⟩ := DataW.trod_bool Tryd.underlying4 h
  exact ⟨a, e⟩

set_option maxRecDepth 100000 in
theorem slice_in {α : Type} {d : Kd α} {Q : α → Prop} {T e : TypeId} (ht : Tryd.prog.underlying T = some (.slice e)) (hz : Tryd.prog.cellsOf e = d.sz)
    (hel : ∀ n cs x, DataW.trod enc Tryd.prog W 0 spare held n e cs = some x → ∃ a, d.K W a cs ∧ Q a) {n : Nat} {cs : List Value} {x : DataW H × List MemPlace} (h : DataW.trod enc Tryd.prog W 0 spare held n T cs = some x) :
    ∃ (l : List α) (A : Option Addr) (c : Nat), cs = [.slice A l.length c] ∧ l.length ≤ c ∧ d.C W A l.length l ∧ ∀ a ∈ l, Q a := by
  rcases DataW.trod_slice ht h with ⟨rfl, _⟩ | ⟨ad, len, cap, elems, rest, m, _, rfl, _, _, hlc, hcm, hl, hE, _, _⟩
  · exact ⟨[], none, 0, rfl, Nat.le_refl _, ⟨rfl, by simp, fun h => by simp at h⟩, fun a ha => by cases ha⟩
  · have hp : ∀ i : Fin len, ∃ a : α, (∃ c, c.length = d.sz ∧ d.K W a c ∧ ∀ j u, c[j]? = some u → W.cell? (ad.add (i.1 * d.sz + j)) = some u) ∧ Q a := by
      intro i
      have h1 := hE i.1 i.2
      rw [List.getElem?_eq_getElem (by omega)] at h1
      obtain ⟨c, hc, ht⟩ := Option.bind_eq_some_iff.1 h1
      obtain ⟨a, hK, hQ⟩ := hel m c _ ht
      obtain ⟨_, hcl, hcc⟩ := World.cells?_some hc
      refine ⟨a, ⟨c, d.K_len hK, hK, fun j u hu => ?_⟩, hQ⟩
      have hj : j < Tryd.prog.cellsOf e := by
        have := (List.getElem?_eq_some_iff.1 hu).1
        omega
      have := hcc j hj
      rw [hu, hz] at this
      rw [← this]
      rw [Addr.add_add]
    obtain ⟨f, hf⟩ := Classical.axiomOfChoice hp
    have hlen : (List.ofFn f).length = len := List.length_ofFn
    have hcap : cap ≤ 9223372036854775807 := hcm
    refine ⟨List.ofFn f, some ad, cap, by rw [hlen], by omega, ⟨rfl, by omega, fun _ => ⟨ad, rfl, fun j p hpj => ?_⟩⟩, fun a ha => ?_⟩
    · obtain ⟨hj, hpe⟩ := List.getElem?_eq_some_iff.1 hpj
      rw [List.getElem_ofFn] at hpe
      subst hpe
      exact (hf ⟨j, by omega⟩).1
    · obtain ⟨i, rfl⟩ := List.mem_ofFn.1 ha
      exact (hf i).2

theorem strs_in {n : Nat} {cs : List Value} {x : DataW H × List MemPlace} (h : DataW.trod enc Tryd.prog W 0 spare held n 22 cs = some x) : ∃ (l : List ByteArray) (A : Option Addr) (c : Nat), cs = [.slice A l.length c] ∧ l.length ≤ c ∧ Kd.string.C W A l.length l := by
  obtain ⟨l, A, c, e, hc, hC, _⟩ := slice_in (d := Kd.string) (Q := fun _ => True) Tryd.underlying22 (by kernel_rfl) (fun n cs x h => by obtain ⟨a, e, _⟩ := str_in h; exact ⟨a, e, trivial⟩) h
  exact ⟨l, A, c, e, hc, hC⟩

theorem len7 {cs : List Value} (h : cs.length = 7) : ∃ a b c d e f g, cs = [a, b, c, d, e, f, g] := by
  match cs, h with
  | [a, b, c, d, e, f, g], _ => exact ⟨a, b, c, d, e, f, g, rfl⟩
theorem len5 {cs : List Value} (h : cs.length = 5) : ∃ a b c d e, cs = [a, b, c, d, e] := by
  match cs, h with
  | [a, b, c, d, e], _ => exact ⟨a, b, c, d, e, rfl⟩
theorem len3 {cs : List Value} (h : cs.length = 3) : ∃ a b c, cs = [a, b, c] := by
  match cs, h with
  | [a, b, c], _ => exact ⟨a, b, c, rfl⟩

/-- The field i of a struct that came in. -/
theorem field_in {fs : Array Field} {xs : List (DataW H × List MemPlace)} {n : Nat} {cs : List Value} (hl : xs.length = fs.size) (h : ∀ (i : Nat) (f : Field), fs[i]? = some f → DataW.trod enc Tryd.prog W 0 spare held n f.type ((cs.drop f.offset).take (Tryd.prog.cellsOf f.type)) = xs[i]?) (i : Nat) (f : Field) (hf : fs[i]? = some f) {T o c : Nat} (e1 : f.type = T) (e2 : f.offset = o) (e3 : Tryd.prog.cellsOf T = c) : ∃ x, DataW.trod enc Tryd.prog W 0 spare held n T ((cs.drop o).take c) = some x := by
  have h1 := h i f hf
  subst e1; subst e2; subst e3
  have hi : i < xs.length := by rw [hl]; exact (Array.getElem?_eq_some_iff.1 hf).1
  rw [List.getElem?_eq_getElem hi] at h1
  exact ⟨_, h1⟩

theorem seal_in {n : Nat} {cs : List Value} {x : DataW H × List MemPlace} (h : DataW.trod enc Tryd.prog W 0 spare held n 31 cs = some x) : ∃ a : S31, k31.K W a cs := by
  obtain ⟨xs, m, _, _, hl, hxl, hf⟩ := DataW.trod_struct Tryd.underlying31 h
  obtain ⟨v0, v1, v2, rfl⟩ := len3 (hl.trans (by kernel_rfl))
  obtain ⟨y0, t0⟩ := field_in hxl hf 0 _ rfl (T := 3) (o := 0) (c := 1) rfl rfl (by kernel_rfl)
  obtain ⟨y1, t1⟩ := field_in hxl hf 1 _ rfl (T := 22) (o := 1) (c := 1) rfl rfl (by kernel_rfl)
  obtain ⟨y2, t2⟩ := field_in hxl hf 2 _ rfl (T := 22) (o := 2) (c := 1) rfl rfl (by kernel_rfl)
  obtain ⟨a0, e0, _⟩ := int_in t0
  obtain ⟨l1, A1, c1, e1, g1, h1⟩ := strs_in t1
  obtain ⟨l2, A2, c2, e2, g2, h2⟩ := strs_in t2
  simp only [List.drop, List.take, List.cons.injEq, and_true] at e0 e1 e2
  subst e0; subst e1; subst e2
  exact ⟨⟨a0, l1, l2⟩, k31_mk W ⟨a0, l1, l2⟩ g1 h1 g2 h2⟩

/-- The whole numbers of a vote are of their kind. -/
def Wv (v : S33) : Prop := -9223372036854775808 ≤ v.f0 ∧ v.f0 ≤ 9223372036854775807 ∧ -9223372036854775808 ≤ v.f2 ∧ v.f2 ≤ 9223372036854775807

theorem vote_in {n : Nat} {cs : List Value} {x : DataW H × List MemPlace} (h : DataW.trod enc Tryd.prog W 0 spare held n 33 cs = some x) : ∃ a : S33, k33.K W a cs ∧ Wv a := by
  obtain ⟨xs, m, _, _, hl, hxl, hf⟩ := DataW.trod_struct Tryd.underlying33 h
  obtain ⟨v0, v1, v2, v3, v4, v5, v6, rfl⟩ := len7 (hl.trans (by kernel_rfl))
  obtain ⟨y0, t0⟩ := field_in hxl hf 0 _ rfl (T := 3) (o := 0) (c := 1) rfl rfl (by kernel_rfl)
  obtain ⟨y1, t1⟩ := field_in hxl hf 1 _ rfl (T := 9) (o := 1) (c := 1) rfl rfl (by kernel_rfl)
  obtain ⟨y2, t2⟩ := field_in hxl hf 2 _ rfl (T := 3) (o := 2) (c := 1) rfl rfl (by kernel_rfl)
  obtain ⟨y3, t3⟩ := field_in hxl hf 3 _ rfl (T := 4) (o := 3) (c := 1) rfl rfl (by kernel_rfl)
  obtain ⟨y4, t4⟩ := field_in hxl hf 4 _ rfl (T := 31) (o := 4) (c := 3) rfl rfl (by kernel_rfl)
  obtain ⟨a0, e0, b0⟩ := int_in t0
  obtain ⟨a1, e1, _⟩ := str_in t1
  obtain ⟨a2, e2, b2⟩ := int_in t2
  obtain ⟨a3, e3⟩ := bool_in t3
  obtain ⟨s, hs⟩ := seal_in t4
  obtain ⟨A1, c1, A2, c2, e4, g1, h1, g2, h2⟩ := k31_open hs
  simp only [List.drop, List.take, List.cons.injEq, and_true] at e0 e1 e2 e3 e4
  obtain ⟨e4, e5, e6⟩ := e4
  subst e0; subst e1; subst e2; subst e3; subst e4; subst e5; subst e6
  exact ⟨⟨a0, a1, a2, a3, s⟩, k33_mk W ⟨a0, a1, a2, a3, s⟩ g1 h1 g2 h2, b0.1, b0.2, b2.1, b2.2⟩

theorem votes_in {n : Nat} {cs : List Value} {x : DataW H × List MemPlace} (h : DataW.trod enc Tryd.prog W 0 spare held n 25 cs = some x) : ∃ (l : List S33) (A : Option Addr) (c : Nat), cs = [.slice A l.length c] ∧ l.length ≤ c ∧ k33.C W A l.length l ∧ ∀ v ∈ l, Wv v :=
  slice_in Tryd.underlying25 (by kernel_rfl) (fun n cs x h => vote_in h) h

set_option maxRecDepth 100000 in
theorem roll_in {v : Value} {d : DataW H} {p : List MemPlace} {r : Reach} {b0 : Nat} (hv : Value.okWide Tryd.prog W r b0 24 v) (h : DataW.Trod enc Tryd.prog W 0 spare held 24 v d p) :
    ∃ (a0 : Int) (A1 : Option Addr) (c1 : Nat) (l1 : List ByteArray) (a2 a3 a4 : Int), v = .agg #[.int .i64 a0, .slice A1 l1.length c1, .int .i64 a2, .int .i64 a3, .int .i64 a4] ∧ l1.length ≤ c1 ∧ Kd.string.C W A1 l1.length l1 := by
  obtain ⟨cs, rfl, hsz⟩ := okWide_struct Tryd.underlying24 hv
  obtain ⟨fuel, hf⟩ := h
  obtain ⟨xs, m, _, _, hl, hxl, hf⟩ := DataW.trod_struct Tryd.underlying24 hf
  obtain ⟨v0, v1, v2, v3, v4, hcs⟩ := len5 (hl.trans (by kernel_rfl))
  rw [hcs] at hf
  obtain ⟨y0, t0⟩ := field_in hxl hf 0 _ rfl (T := 3) (o := 0) (c := 1) rfl rfl (by kernel_rfl)
  obtain ⟨y1, t1⟩ := field_in hxl hf 1 _ rfl (T := 22) (o := 1) (c := 1) rfl rfl (by kernel_rfl)
  obtain ⟨y2, t2⟩ := field_in hxl hf 2 _ rfl (T := 3) (o := 2) (c := 1) rfl rfl (by kernel_rfl)
  obtain ⟨y3, t3⟩ := field_in hxl hf 3 _ rfl (T := 3) (o := 3) (c := 1) rfl rfl (by kernel_rfl)
  obtain ⟨y4, t4⟩ := field_in hxl hf 4 _ rfl (T := 3) (o := 4) (c := 1) rfl rfl (by kernel_rfl)
  obtain ⟨a0, e0, _⟩ := int_in t0
  obtain ⟨l1, A1, c1, e1, g1, h1⟩ := strs_in t1
  obtain ⟨a2, e2, _⟩ := int_in t2
  obtain ⟨a3, e3, _⟩ := int_in t3
  obtain ⟨a4, e4, _⟩ := int_in t4
  simp only [List.drop, List.take, List.cons.injEq, and_true] at e0 e1 e2 e3 e4
  subst e0; subst e1; subst e2; subst e3; subst e4
  exact ⟨a0, A1, c1, l1, a2, a3, a4, by rw [← Array.toArray_toList (xs := cs)]; exact congrArg (fun l => Value.agg l.toArray) hcs, g1, h1⟩

set_option maxRecDepth 100000 in
theorem cert_in {v : Value} {d : DataW H} {p : List MemPlace} {r : Reach} {b0 : Nat} (hv : Value.okWide Tryd.prog W r b0 27 v) (h : DataW.Trod enc Tryd.prog W 0 spare held 27 v d p) :
    ∃ (a0 : Int) (a1 : ByteArray) (A2 : Option Addr) (c2 : Nat) (l2 : List S33), v = .agg #[.int .i64 a0, .string a1, .slice A2 l2.length c2] ∧ l2.length ≤ c2 ∧ k33.C W A2 l2.length l2 ∧ ∀ v ∈ l2, Wv v := by
  obtain ⟨cs, rfl, hsz⟩ := okWide_struct Tryd.underlying27 hv
  obtain ⟨fuel, hf⟩ := h
  obtain ⟨xs, m, _, _, hl, hxl, hf⟩ := DataW.trod_struct Tryd.underlying27 hf
  obtain ⟨v0, v1, v2, hcs⟩ := len3 (hl.trans (by kernel_rfl))
  rw [hcs] at hf
  obtain ⟨y0, t0⟩ := field_in hxl hf 0 _ rfl (T := 3) (o := 0) (c := 1) rfl rfl (by kernel_rfl)
  obtain ⟨y1, t1⟩ := field_in hxl hf 1 _ rfl (T := 9) (o := 1) (c := 1) rfl rfl (by kernel_rfl)
  obtain ⟨y2, t2⟩ := field_in hxl hf 2 _ rfl (T := 25) (o := 2) (c := 1) rfl rfl (by kernel_rfl)
  obtain ⟨a0, e0, _⟩ := int_in t0
  obtain ⟨a1, e1, _⟩ := str_in t1
  obtain ⟨l2, A2, c2, e2, g2, h2, w2⟩ := votes_in t2
  simp only [List.drop, List.take, List.cons.injEq, and_true] at e0 e1 e2
  subst e0; subst e1; subst e2
  exact ⟨a0, a1, A2, c2, l2, by rw [← Array.toArray_toList (xs := cs)]; exact congrArg (fun l => Value.agg l.toArray) hcs, g2, h2, w2⟩

end
end Go.Proofs.YtoimnllcniefoaaDoor.P
/- The law VoteMany, walked: a certificate's first vote, repeated by members that there are not. -/
namespace Go.Proofs.YtoimnllcniefoaaDoor.P
open Go.RowKit Go.Proofs.YtoimnllcniefoaaDoor Go.Proofs.YtoimnllcniefoaaDoorW.PrintWords Go.Proofs.YtoimnllcniefoaaDoorW.PrintLast Go.Proofs.YtoimnllcniefoaaDoorW.PrintMore
set_option linter.unusedVariables false
set_option linter.unusedSimpArgs false

theorem infoVote : (Tryd.prog.info? 33).map (fun i => (i.zero, i.size, i.bytes)) = some (some (.agg #[.int .i64 0, .string ⟨#[]⟩, .int .i64 0, .bool false, .int .i64 0, .slice none 0 0, .slice none 0 0]), 7, 96) := by kernel_rfl
theorem C_unfix {α : Type} {d : Kd α} {w0 W : World} {A : Option Addr} {n : Nat} {xs : List α} (hb : Below w0.heap.size w0 W) (h : (Kd.fixed d w0).C W A n xs) : d.C W A n xs := by
  refine ⟨h.1, h.2.1, fun hn => ?_⟩
  obtain ⟨ad, e, hc⟩ := h.2.2 hn
  refine ⟨ad, e, fun j p hp => ?_⟩
  obtain ⟨c, h1, h2, h3⟩ := hc j p hp
  exact ⟨c, h1, d.K_below hb h2, h3⟩

theorem one_at2 {l : List Vo.V} {w : World} {A : Option Addr} (h : Kd.C k33 w A l.length l) (j : Nat) (hj : j < l.length) : ∃ ad A5 c5 A6 c6, A = some ad ∧ VoteIs l[j] A5 c5 A6 c6 w ∧ ∀ W : World, Below w.heap.size w W → W.cell? (ad.add (j * 7)) = some (.int .i64 l[j].f0) ∧ W.cell? ⟨(ad.add (j * 7)).block, (ad.add (j * 7)).off + 1, none⟩ = some (.string l[j].f1) ∧ W.cell? ⟨(ad.add (j * 7)).block, (ad.add (j * 7)).off + 2, none⟩ = some (.int .i64 l[j].f2) ∧ W.cell? ⟨(ad.add (j * 7)).block, (ad.add (j * 7)).off + 3, none⟩ = some (.bool l[j].f3) ∧ W.cell? ⟨(ad.add (j * 7)).block, (ad.add (j * 7)).off + 4, none⟩ = some (.int .i64 l[j].f4.f0) ∧ W.cell? ⟨(ad.add (j * 7)).block, (ad.add (j * 7)).off + 5, none⟩ = some (.slice A5 l[j].f4.f1.length c5) ∧ W.cell? ⟨(ad.add (j * 7)).block, (ad.add (j * 7)).off + 6, none⟩ = some (.slice A6 l[j].f4.f2.length c6) := by
  obtain ⟨ad, A5, c5, A6, c6, e, e0, e1, e2, e3, e4, e5, e6, g5, h5, g6, h6⟩ := one_at h (Below.refl _ _) j hj
  have hlt : (ad.add (j * 7)).block < w.heap.size := by
    rcases Nat.lt_or_ge (ad.add (j * 7)).block w.heap.size with h' | h'
    · exact h'
    · unfold World.cell? at e0
      simp [Array.getElem?_eq_none h'] at e0
  refine ⟨ad, A5, c5, A6, c6, e, ⟨g5, h5, g6, h6⟩, fun W hb => ?_⟩
  have hc := fun (o : Nat) => hb.cell (p := ⟨(ad.add (j * 7)).block, o, none⟩) hlt
  have hc0 := hb.cell (p := ad.add (j * 7)) hlt
  exact ⟨hc0.trans e0, (hc _).trans e1, (hc _).trans e2, (hc _).trans e3, (hc _).trans e4, (hc _).trans e5, (hc _).trans e6⟩

def manyV (x : Vo.V) (n : Nat) : List Vo.V := (List.range n).map fun (i : Nat) => ⟨-1 - (i : Int), x.f1, x.f2, x.f3, x.f4⟩
theorem manyV_length (x : Vo.V) (n : Nat) : (manyV x n).length = n := by simp [manyV]
theorem manyV_succ (x : Vo.V) (n : Nat) : manyV x (n + 1) = manyV x n ++ [⟨-1 - (n : Int), x.f1, x.f2, x.f3, x.f4⟩] := by simp [manyV, List.range_succ]
/-- None of them counts. -/
theorem manyV_none (ch : Int) (keys : List ByteArray) (q num den : Int) (bill : ByteArray) (x : Vo.V) (n : Nat) : ∀ j, j ≤ n → (Vo.cnt (Vo.okv ch keys q num den bill) (manyV x n) j).yes = 0 ∧ (Vo.cnt (Vo.okv ch keys q num den bill) (manyV x n) j).no = 0 := by
  intro j
  induction j with
  | zero => intro _; exact ⟨rfl, rfl⟩
  | succ j ih =>
    intro h
    rw [Vo.cnt_succ _ _ (by rw [manyV_length]; omega)]
    unfold Vo.step
    rw [if_neg]
    · exact ih (by omega)
    · intro hc
      unfold Vo.counts at hc
      rw [Bool.and_eq_true] at hc
      have h0 := (Vo.okv_range hc.2).2.2.2.1
      simp [manyV] at h0
      omega
theorem many_carried (ch : Int) (keys : List ByteArray) (q num den cch : Int) (bill : ByteArray) (l : List Vo.V) (hz : (Vo.count ch keys q num den bill l).yes = 0 ∧ (Vo.count ch keys q num den bill l).no = 0) : Vo.carried ch keys q num den cch bill l = 1 ∨ (Vo.carried ch keys q num den cch bill l = 2 ∧ 120 < l.length) ∨ (Vo.carried ch keys q num den cch bill l = 20 ∧ l.length ≤ 120) := by
  unfold Vo.carried
  split
  · exact .inl rfl
  · rename_i hg
    split
    · exact .inr (.inl ⟨rfl, by assumption⟩)
    · have hp : Vo.proper ch keys q num den = true := by
        cases hp : Vo.proper ch keys q num den with
        | true => rfl
        | false => exact absurd (.inl hp) hg
      have := (Vo.proper_true hp).2.2.2.1
      rw [if_pos (by rw [hz.1, hz.2]; omega)]
      exact .inr (.inr ⟨rfl, by omega⟩)

/-- The boxes of the two arguments. -/
structure MaS (w : World) (ch : Int) (A1 : Option Addr) (n1 c1 : Nat) (q num den cch : Int) (bill : ByteArray) (A2 : Option Addr) (n2 c2 : Nat) (A : World) : Prop where
  below : Below w.heap.size w A
  ro : A.heap[w.heap.size]? = some (.cells #[.int .i64 ch, .slice A1 n1 c1, .int .i64 q, .int .i64 num, .int .i64 den] 24 (0, 0))
  ce : A.heap[w.heap.size + 1]? = some (.cells #[.int .i64 cch, .string bill, .slice A2 n2 c2] 27 (0, 0))
section
variable {w : World} {ch : Int} {A1 : Option Addr} {n1 c1 : Nat} {q num den cch : Int} {bill : ByteArray} {A2 : Option Addr} {n2 c2 : Nat} {A B : World}
theorem MaS.step (h : MaS w ch A1 n1 c1 q num den cch bill A2 n2 c2 A) (hb : Below A.heap.size A B) : MaS w ch A1 n1 c1 q num den cch bill A2 n2 c2 B := ⟨below_step h.below hb, blk_below h.ro hb, blk_below h.ce hb⟩
theorem MaS.cells (h : MaS w ch A1 n1 c1 q num den cch bill A2 n2 c2 A) :
    A.cell? ⟨w.heap.size, 0, none⟩ = some (.int .i64 ch) ∧ A.cell? ⟨w.heap.size, 1, none⟩ = some (.slice A1 n1 c1) ∧ A.cell? ⟨w.heap.size, 2, none⟩ = some (.int .i64 q) ∧ A.cell? ⟨w.heap.size, 3, none⟩ = some (.int .i64 num) ∧ A.cell? ⟨w.heap.size, 4, none⟩ = some (.int .i64 den) ∧
    A.cell? ⟨w.heap.size + 1, 0, none⟩ = some (.int .i64 cch) ∧ A.cell? ⟨w.heap.size + 1, 1, none⟩ = some (.string bill) ∧ A.cell? ⟨w.heap.size + 1, 2, none⟩ = some (.slice A2 n2 c2) :=
  ⟨(blk_cell h.ro 0).trans rfl, (blk_cell h.ro 1).trans rfl, (blk_cell h.ro 2).trans rfl, (blk_cell h.ro 3).trans rfl, (blk_cell h.ro 4).trans rfl, (blk_cell h.ce 0).trans rfl, (blk_cell h.ce 1).trans rfl, (blk_cell h.ce 2).trans rfl⟩
theorem MaS.new (w : World) (ch : Int) (A1 : Option Addr) (n1 c1 : Nat) (q num den cch : Int) (bill : ByteArray) (A2 : Option Addr) (n2 c2 : Nat) : MaS w ch A1 n1 c1 q num den cch bill A2 n2 c2 ((w.alloc (.cells #[.int .i64 ch, .slice A1 n1 c1, .int .i64 q, .int .i64 num, .int .i64 den] 24)).alloc (.cells #[.int .i64 cch, .string bill, .slice A2 n2 c2] 27)) :=
  ⟨upB (Below.refl _ _), blk_below (blk_new _ _) (upB (Below.refl _ _)), blk_one _ _ _⟩
theorem MaS.grown (h : MaS w ch A1 n1 c1 q num den cch bill A2 n2 c2 A) {v : Value} {α : Type} {d : Kd α} {xs : List α} {e : Nat} (hr : d.R e A w.heap.size (fun k => k ≠ w.heap.size ∧ k ≠ w.heap.size + 1) v xs) (hb : Below w.heap.size w B) (hg : A.grownBy B v.ownBlock) : MaS w ch A1 n1 c1 q num den cch bill A2 n2 c2 B :=
  ⟨hb, blk_grown h.ro hg (fun e => (hr.1 _ e.symm).1 rfl), blk_grown h.ce hg (fun e => (hr.1 _ e.symm).2 rfl)⟩
end

set_option maxHeartbeats 8000000 in
set_option maxRecDepth 100000 in
theorem many_no (ch : Int) (A1 : Option Addr) (c1 : Nat) (l1 : List ByteArray) (q num den cch : Int) (bill : ByteArray) (A2 : Option Addr) (c2 : Nat) (l2 : List Vo.V) (raw : Int) (w : World) (h0 : 0 ≤ raw) (h1 : raw ≤ 255) (hr1 : Kd.C Kd.string w A1 l1.length l1) (hc1 : l1.length ≤ c1) (hr2 : Kd.C k33 w A2 l2.length l2) (hc2 : l2.length ≤ c2) (hT : Tabs w)
    (hf : pandectlaw39_few.f 5000 ch l1 q num den l2 = some false) :
    Calls Tryd.prog 3 #[.agg #[.int .i64 ch, .slice A1 l1.length c1, .int .i64 q, .int .i64 num, .int .i64 den], .agg #[.int .i64 cch, .string bill, .slice A2 l2.length c2], .int .u8 raw] w fun e w' => e = .returned (.bool true) ∧ Below w.heap.size w w' := by
  have HS := Lib.hid (MaS.new w ch A1 l1.length c1 q num den cch bill A2 l2.length c2)
  have HH := Lib.hid (fun W hT => pandectlaw39_head.calls 5000 true W hT (head_is 5000 (by decide)))
  have HF := Lib.hid (fun W (hb : Below w.heap.size w W) => pandectlaw39_few.calls 5000 ch A1 c1 l1 q num den A2 c2 l2 false W (Kd.C_below hr1 hb) hc1 (Kd.C_below hr2 hb) hc2 hf)
  have HT := Lib.hid hT
  clear hr1 hc1 hr2 hc2 hT hf
  go_enter Tryd.func3, Tryd.ntmps3
  go_wp2_with fail
  refine (HH.out _ (tabs_below HT.out HS.out.below)).mono ?_
  rintro e w1 ⟨rfl, hb⟩
  replace HS := Lib.hid (HS.out.step hb)
  clear hb
  obtain ⟨q0, q1, q2, q3, q4, q5, q6, q7⟩ := HS.out.cells
  go_wp2_with fail
  refine (HF.out _ HS.out.below).mono ?_
  rintro e w2 ⟨rfl, hb⟩
  replace HS := Lib.hid (HS.out.step hb)
  clear hb q0 q1 q2 q3 q4 q5 q6 q7
  go_wp2
  go_ret
  exact ⟨rfl, HS.out.below⟩

set_option maxHeartbeats 8000000 in
set_option maxRecDepth 100000 in
theorem many_big (ch : Int) (A1 : Option Addr) (c1 : Nat) (l1 : List ByteArray) (q num den cch : Int) (bill : ByteArray) (A2 : Option Addr) (c2 : Nat) (l2 : List Vo.V) (raw : Int) (w : World) (h0 : 0 ≤ raw) (h1 : raw ≤ 255) (hr1 : Kd.C Kd.string w A1 l1.length l1) (hc1 : l1.length ≤ c1) (hr2 : Kd.C k33 w A2 l2.length l2) (hc2 : l2.length ≤ c2) (hT : Tabs w)
    (hf : pandectlaw39_few.f 5000 ch l1 q num den l2 = some true) (hlen : 2 < l2.length) :
    Calls Tryd.prog 3 #[.agg #[.int .i64 ch, .slice A1 l1.length c1, .int .i64 q, .int .i64 num, .int .i64 den], .agg #[.int .i64 cch, .string bill, .slice A2 l2.length c2], .int .u8 raw] w fun e w' => e = .returned (.bool true) ∧ Below w.heap.size w w' := by
  have HS := Lib.hid (MaS.new w ch A1 l1.length c1 q num den cch bill A2 l2.length c2)
  have HH := Lib.hid (fun W hT => pandectlaw39_head.calls 5000 true W hT (head_is 5000 (by decide)))
  have HF := Lib.hid (fun W (hb : Below w.heap.size w W) => pandectlaw39_few.calls 5000 ch A1 c1 l1 q num den A2 c2 l2 true W (Kd.C_below hr1 hb) hc1 (Kd.C_below hr2 hb) hc2 hf)
  have HT := Lib.hid hT
  have hmx := hr2.2.1
  have dlen : decide ((l2.length : Int) > 2) = true := decide_eq_true (by omega)
  have dlen2 : decide (2 < l2.length) = true := decide_eq_true (by omega)
  clear hr1 hc1 hr2 hc2 hT hf
  go_enter Tryd.func3, Tryd.ntmps3
  go_wp2_with fail
  refine (HH.out _ (tabs_below HT.out HS.out.below)).mono ?_
  rintro e w1 ⟨rfl, hb⟩
  replace HS := Lib.hid (HS.out.step hb)
  clear hb
  obtain ⟨q0, q1, q2, q3, q4, q5, q6, q7⟩ := HS.out.cells
  go_wp2_with fail
  refine (HF.out _ HS.out.below).mono ?_
  rintro e w2 ⟨rfl, hb⟩
  replace HS := Lib.hid (HS.out.step hb)
  clear hb q0 q1 q2 q3 q4 q5 q6 q7
  obtain ⟨q0, q1, q2, q3, q4, q5, q6, q7⟩ := HS.out.cells
  go_wp2
  go_ret
  exact ⟨rfl, HS.out.below⟩

set_option maxHeartbeats 8000000 in
set_option maxRecDepth 100000 in
theorem many_yes (ch : Int) (A1 : Option Addr) (c1 : Nat) (l1 : List ByteArray) (q num den cch : Int) (bill : ByteArray) (A2 : Option Addr) (c2 : Nat) (l2 : List Vo.V) (raw : Int) (w : World) (h0 : 0 ≤ raw) (h1 : raw ≤ 255) (hr1 : Kd.C Kd.string w A1 l1.length l1) (hc1 : l1.length ≤ c1) (hr2 : Kd.C k33 w A2 l2.length l2) (hc2 : l2.length ≤ c2) (hT : Tabs w)
    (hf : pandectlaw39_few.f 5000 ch l1 q num den l2 = some true) (hlen : l2.length ≤ 2) (h0l : 0 < l2.length) :
    Calls Tryd.prog 3 #[.agg #[.int .i64 ch, .slice A1 l1.length c1, .int .i64 q, .int .i64 num, .int .i64 den], .agg #[.int .i64 cch, .string bill, .slice A2 l2.length c2], .int .u8 raw] w fun e w' => e = .returned (.bool true) ∧ Below w.heap.size w w' := by
  have HS := Lib.hid (MaS.new w ch A1 l1.length c1 q num den cch bill A2 l2.length c2)
  have HH := Lib.hid (fun W hT => pandectlaw39_head.calls 5000 true W hT (head_is 5000 (by decide)))
  have HF := Lib.hid (fun W (hb : Below w.heap.size w W) => pandectlaw39_few.calls 5000 ch A1 c1 l1 q num den A2 c2 l2 true W (Kd.C_below hr1 hb) hc1 (Kd.C_below hr2 hb) hc2 hf)
  have HT := Lib.hid hT
  have hmx := hr2.2.1
  have HR1 := Lib.hid hr1
  have HC1 := Lib.hid hc1
  obtain ⟨x, hx⟩ : ∃ x, x = l2[0] := ⟨_, rfl⟩
  obtain ⟨ad, A5, c5, A6, c6, eA, vis, hone⟩ := one_at2 hr2 0 h0l
  rw [← hx] at vis hone
  simp only [Nat.zero_mul, show ad.add 0 = ad by simp [Addr.add]] at hone
  have HVI := Lib.hid vis
  have HONE := Lib.hid hone
  have EA := Lib.hid eA
  clear hx vis hone eA
  obtain ⟨N, hN⟩ : ∃ N : Nat, (N : Int) = 110 + raw % 20 := ⟨(110 + raw % 20).toNat, by omega⟩
  have hN1 : N ≤ 129 := by omega
  have HNN := Lib.hid hN
  clear hN
  clear hr1 hc1 hr2 hc2 hT hf
  go_enter Tryd.func3, Tryd.ntmps3
  go_wp2_with fail
  refine (HH.out _ (tabs_below HT.out HS.out.below)).mono ?_
  rintro e w1 ⟨rfl, hb⟩
  replace HS := Lib.hid (HS.out.step hb)
  clear hb
  obtain ⟨q0, q1, q2, q3, q4, q5, q6, q7⟩ := HS.out.cells
  go_wp2_with fail
  refine (HF.out _ HS.out.below).mono ?_
  rintro e w2 ⟨rfl, hb⟩
  replace HS := Lib.hid (HS.out.step hb)
  clear hb q0 q1 q2 q3 q4 q5 q6 q7
  obtain ⟨q0, q1, q2, q3, q4, q5, q6, q7⟩ := HS.out.cells
  go_wp2_with fail
  clear q0 q1 q2 q3 q4 q5 q6 q7
  rw [← HNN.out]
  go_loopw [9, 10] (fun v i wr => ∃ j : Nat, j ≤ N ∧ i = .int .i64 (j : Int) ∧ Hid (MaS w ch A1 l1.length c1 q num den cch bill A2 l2.length c2 wr) ∧ Hid ((Kd.fixed k33 w).R 33 wr w.heap.size (fun k => k ≠ w.heap.size ∧ k ≠ w.heap.size + 1) v (manyV x j))) (fun _ i _ => N - (intOf i).toNat)
  case atStart => exact ⟨0, Nat.zero_le _, rfl, HS, Lib.hid (Kd.R_nil _ _ _ _ _)⟩
  case round =>
    obtain ⟨j, hj, rfl, HM, HR⟩ := hrel
    obtain ⟨q0, q1, q2, q3, q4, q5, q6, q7⟩ := HM.out.cells
    by_cases hlt : j < N
    · obtain ⟨e0, e1, e2, e3, e4, e5, e6⟩ := HONE.out _ HM.out.below
      have eA := EA.out
      clear EA
      subst eA
      have hlt' : (j : Int) < (N : Int) := by omega
      have h0i : (0 : Int) < (l2.length : Int) := by omega
      have HMA := Lib.hid (HM.out.step (upB (Below.refl _ _) : Below wr.heap.size wr (wr.alloc (.cells #[.int .i64 (-1 - (j : Int)), .string x.f1, .int .i64 x.f2, .bool x.f3, .int .i64 x.f4.f0, .slice A5 x.f4.f1.length c5, .slice A6 x.f4.f2.length c6] 33))))
      have HRA := Lib.hid (Kd.R_below HR.out (upB (Below.refl _ _) : Below wr.heap.size wr (wr.alloc (.cells #[.int .i64 (-1 - (j : Int)), .string x.f1, .int .i64 x.f2, .bool x.f3, .int .i64 x.f4.f0, .slice A5 x.f4.f1.length c5, .slice A6 x.f4.f2.length c6] 33))))
      go_upto_region 11 with fail
      have hbx := blk_new wr (.cells #[.int .i64 (-1 - (j : Int)), .string x.f1, .int .i64 x.f2, .bool x.f3, .int .i64 x.f4.f0, .slice A5 x.f4.f1.length c5, .slice A6 x.f4.f2.length c6] 33)
      generalize wr.alloc _ = wv at HMA HRA hbx ⊢
      generalize wr.heap.size = bx at hbx ⊢
      clear e0 e1 e2 e3 e4 e5 e6 q0 q1 q2 q3 q4 q5 q6 q7
      have e0 : wv.cell? ⟨bx, 0, none⟩ = some (.int .i64 (-1 - (j : Int))) := (blk_cell hbx 0).trans rfl
      have e1 : wv.cell? ⟨bx, 1, none⟩ = some (.string x.f1) := (blk_cell hbx 1).trans rfl
      have e2 : wv.cell? ⟨bx, 2, none⟩ = some (.int .i64 x.f2) := (blk_cell hbx 2).trans rfl
      have e3 : wv.cell? ⟨bx, 3, none⟩ = some (.bool x.f3) := (blk_cell hbx 3).trans rfl
      have e4 : wv.cell? ⟨bx, 4, none⟩ = some (.int .i64 x.f4.f0) := (blk_cell hbx 4).trans rfl
      have e5 : wv.cell? ⟨bx, 5, none⟩ = some (.slice A5 x.f4.f1.length c5) := (blk_cell hbx 5).trans rfl
      have e6 : wv.cell? ⟨bx, 6, none⟩ = some (.slice A6 x.f4.f2.length c6) := (blk_cell hbx 6).trans rfl
      clear hbx
      go_wp2_with (at_builtin; refine Kd.R_append (Kd.fixed k33 w) (w0 := w) w.heap.size rfl (.tmp 48) (.tmp 50) 25 33 _ 96 rfl Tryd.underlying25 infoVote rfl (by show 0 < 7; decide) (by omega) u9 (manyV x j) ⟨-1 - (j : Int), x.f1, x.f2, x.f3, x.f4⟩ [.int .i64 (-1 - (j : Int)), .string x.f1, .int .i64 x.f2, .bool x.f3, .int .i64 x.f4.f0, .slice A5 x.f4.f1.length c5, .slice A6 x.f4.f2.length c6] (fun k => k ≠ w.heap.size ∧ k ≠ w.heap.size + 1) (fun _ => False) rfl rfl ?aP (fun _ hk => hk.elim) ?aF ?aO ?aB ?aS ?aL ?_; (case aP => exact k33_mk w ⟨-1 - (j : Int), x.f1, x.f2, x.f3, x.f4⟩ HVI.out.l5 HVI.out.r5 HVI.out.l6 HVI.out.r6); (case aF => exact fun k hk => ⟨by have := blk_lt HMA.out.ro; omega, by have := blk_lt HMA.out.ce; omega⟩); (case aO => exact HRA.out); (case aB => exact HMA.out.below); (case aS => exact HMA.out.below.size); (case aL => rw [manyV_length]; omega); intro v1 w9 ho hb hg hat)
      have HM2 := Lib.hid (HMA.out.grown HRA.out hb hg)
      rw [← manyV_succ] at ho
      have HR2 := Lib.hid ho
      clear ho hb hg hat
      go_wp2
      go_roundw
      case rel => exact ⟨j + 1, by omega, by simp, HM2, HR2⟩
      case measure => simp [intOf]; omega
    · obtain rfl : j = N := by omega
      clear hlt hj
      obtain ⟨A, c, eV, gl, hC⟩ := Kd.R_reads HR.out
      have hC2 := C_unfix HM.out.below hC
      subst eV
      have hcar := many_carried ch l1 q num den cch bill (manyV x j) (by
        have := manyV_none ch l1 q num den bill x j j (Nat.le_refl _)
        unfold Vo.count
        rw [manyV_length]
        exact this)
      have hml := manyV_length x j
      have HC := fun (W : World) (hb : Below wr.heap.size wr W) => vote_Carried.calls 5000 ch A1 c1 l1 q num den cch bill A c (manyV x j) _ W (Kd.C_below HR1.out (below_step HM.out.below hb)) HC1.out (Kd.C_below hC2 hb) gl (tabs_below HT.out (below_step HM.out.below hb)) (carried_is 5000 (by decide) ch l1 q num den cch bill (manyV x j) (by rw [hml]; omega))
      rw [hml] at hcar
      replace HC := Lib.hid HC
      clear hC hC2 gl hml
      go_wp2_with fail
      refine (HC.out _ (Below.refl _ _)).mono ?_
      rintro e w3 ⟨rfl, hb⟩
      have HM3 := Lib.hid (HM.out.step hb)
      clear hb HC q0 q1 q2 q3 q4 q5 q6 q7
      have hml' : (manyV x j).length = j := manyV_length x j
      rcases hcar with hcar | ⟨hcar, hgt⟩ | ⟨hcar, hle⟩
      · rw [hcar]
        clear hcar hml'
        go_wp2
        go_ret
        exact ⟨rfl, HM3.out.below⟩
      · rw [hcar, hml']
        have hgt' : (120 : Int) < (j : Int) := by omega
        clear hcar hml'
        go_wp2
        go_ret
        exact ⟨rfl, HM3.out.below⟩
      · rw [hcar, hml']
        have hle' : decide ((120 : Int) < (j : Int)) = false := decide_eq_false (by omega)
        clear hcar hml'
        go_wp2
        go_ret
        exact ⟨rfl, HM3.out.below⟩
set_option maxHeartbeats 8000000 in
set_option maxRecDepth 100000 in
theorem many_nil (ch : Int) (A1 : Option Addr) (c1 : Nat) (l1 : List ByteArray) (q num den cch : Int) (bill : ByteArray) (A2 : Option Addr) (c2 : Nat) (l2 : List Vo.V) (raw : Int) (w : World) (h0 : 0 ≤ raw) (h1 : raw ≤ 255) (hr1 : Kd.C Kd.string w A1 l1.length l1) (hc1 : l1.length ≤ c1) (hr2 : Kd.C k33 w A2 l2.length l2) (hc2 : l2.length ≤ c2) (hT : Tabs w)
    (hf : pandectlaw39_few.f 5000 ch l1 q num den l2 = some true) (hlen : l2.length = 0) :
    Calls Tryd.prog 3 #[.agg #[.int .i64 ch, .slice A1 l1.length c1, .int .i64 q, .int .i64 num, .int .i64 den], .agg #[.int .i64 cch, .string bill, .slice A2 0 c2], .int .u8 raw] w fun e w' => e = .returned (.bool true) ∧ Below w.heap.size w w' := by
  have HS := Lib.hid (MaS.new w ch A1 l1.length c1 q num den cch bill A2 l2.length c2)
  have HH := Lib.hid (fun W hT => pandectlaw39_head.calls 5000 true W hT (head_is 5000 (by decide)))
  have HF := Lib.hid (fun W (hb : Below w.heap.size w W) => pandectlaw39_few.calls 5000 ch A1 c1 l1 q num den A2 c2 l2 true W (Kd.C_below hr1 hb) hc1 (Kd.C_below hr2 hb) hc2 hf)
  have HT := Lib.hid hT
  have HR1 := Lib.hid hr1
  have HC1 := Lib.hid hc1
  obtain ⟨n2, hn2⟩ : ∃ n, n = l2.length := ⟨_, rfl⟩
  rw [← hn2] at HS HF hlen
  subst hlen
  clear hn2
  obtain ⟨N, hN⟩ : ∃ N : Nat, (N : Int) = 110 + raw % 20 := ⟨(110 + raw % 20).toNat, by omega⟩
  have hN1 : N ≤ 129 := by omega
  have HNN := Lib.hid hN
  clear hN
  clear hr1 hc1 hr2 hc2 hT hf
  go_enter Tryd.func3, Tryd.ntmps3
  go_wp2_with fail
  refine (HH.out _ (tabs_below HT.out HS.out.below)).mono ?_
  rintro e w1 ⟨rfl, hb⟩
  replace HS := Lib.hid (HS.out.step hb)
  clear hb
  obtain ⟨q0, q1, q2, q3, q4, q5, q6, q7⟩ := HS.out.cells
  go_wp2_with fail
  refine (HF.out _ HS.out.below).mono ?_
  rintro e w2 ⟨rfl, hb⟩
  replace HS := Lib.hid (HS.out.step hb)
  clear hb q0 q1 q2 q3 q4 q5 q6 q7
  obtain ⟨q0, q1, q2, q3, q4, q5, q6, q7⟩ := HS.out.cells
  go_wp2_with fail
  clear q0 q1 q2 q3 q4 q5 q6 q7
  rw [← HNN.out]
  go_loopw [9, 10] (fun v i wr => v = .slice none 0 0 ∧ i = .int .i64 0 ∧ Hid (MaS w ch A1 l1.length c1 q num den cch bill A2 0 c2 wr)) (fun _ i _ => 1)
  case atStart => exact ⟨rfl, rfl, HS⟩
  case round =>
    obtain ⟨rfl, rfl, HM⟩ := hrel
    obtain ⟨q0, q1, q2, q3, q4, q5, q6, q7⟩ := HM.out.cells
    have hcar := many_carried ch l1 q num den cch bill [] ⟨rfl, rfl⟩
    have HC := fun (W : World) (hb : Below wr.heap.size wr W) => vote_Carried.calls 5000 ch A1 c1 l1 q num den cch bill none 0 [] _ W (Kd.C_below HR1.out (below_step HM.out.below hb)) HC1.out ⟨rfl, by simp, fun h => by simp at h⟩ (Nat.le_refl _) (tabs_below HT.out (below_step HM.out.below hb)) (carried_is 5000 (by decide) ch l1 q num den cch bill [] (by simp))
    replace HC := Lib.hid HC
    have hN0 : (0 : Int) < (N : Int) := by have := HNN.out; omega
    go_wp2_with fail
    refine (HC.out _ (Below.refl _ _)).mono ?_
    rintro e w3 ⟨rfl, hb⟩
    have HM3 := Lib.hid (HM.out.step hb)
    clear hb HC q0 q1 q2 q3 q4 q5 q6 q7
    rcases hcar with hcar | ⟨hcar, hgt⟩ | ⟨hcar, hle⟩
    · rw [hcar]
      clear hcar
      go_wp2
      go_ret
      exact ⟨rfl, HM3.out.below⟩
    · simp at hgt
    · rw [hcar]
      clear hcar
      go_wp2
      go_ret
      exact ⟨rfl, HM3.out.below⟩

def pandectlaw39_VoteMany.f (k : Nat) (a0 : Int) (l0 : List ByteArray) (a1 a2 a3 a4 : Int) (a5 : ByteArray) (l6 : List Vo.V) (a7 : Int) : Option Bool := if 0 ≤ a7 ∧ a7 ≤ 255 then some true else none
theorem pandectlaw39_VoteMany.calls (k : Nat) (ch : Int) (A1 : Option Addr) (c1 : Nat) (l1 : List ByteArray) (q num den cch : Int) (bill : ByteArray) (A2 : Option Addr) (c2 : Nat) (l2 : List Vo.V) (raw : Int) (r : Bool) (w : World) (hr1 : Kd.C Kd.string w A1 l1.length l1) (hc1 : l1.length ≤ c1) (hr2 : Kd.C k33 w A2 l2.length l2) (hc2 : l2.length ≤ c2) (hT : Tabs w)
    (h : pandectlaw39_VoteMany.f k ch l1 q num den cch bill l2 raw = some r) :
    Calls Tryd.prog 3 #[.agg #[.int .i64 ch, .slice A1 l1.length c1, .int .i64 q, .int .i64 num, .int .i64 den], .agg #[.int .i64 cch, .string bill, .slice A2 l2.length c2], .int .u8 raw] w fun e w' => e = .returned (.bool r) ∧ Below w.heap.size w w' := by
  unfold pandectlaw39_VoteMany.f at h
  split at h
  case isFalse => cases h
  rename_i hraw
  cases h
  obtain ⟨b, hb, hb2⟩ := few_is ch l1 q num den l2 5000 (by decide)
  cases b with
  | false => exact many_no ch A1 c1 l1 q num den cch bill A2 c2 l2 raw w hraw.1 hraw.2 hr1 hc1 hr2 hc2 hT hb
  | true =>
    by_cases h2 : 2 < l2.length
    · exact many_big ch A1 c1 l1 q num den cch bill A2 c2 l2 raw w hraw.1 hraw.2 hr1 hc1 hr2 hc2 hT hb h2
    · by_cases h0 : l2.length = 0
      · have := many_nil ch A1 c1 l1 q num den cch bill A2 c2 l2 raw w hraw.1 hraw.2 hr1 hc1 hr2 hc2 hT hb h0
        rw [h0]
        exact this
      · exact many_yes ch A1 c1 l1 q num den cch bill A2 c2 l2 raw w hraw.1 hraw.2 hr1 hc1 hr2 hc2 hT hb (by omega) (by omega)
end Go.Proofs.YtoimnllcniefoaaDoor.P
