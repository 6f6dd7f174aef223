import Derived.Test.YtoimnllcniefoaaDoorTie
import Derived.Test.YtoimnllcniefoaaDoorKPx0
import Derived.Test.YtoimnllcniefoaaDoorKPx1
import Derived.Test.YtoimnllcniefoaaDoorKPx2
import Derived.Test.YtoimnllcniefoaaDoorKPx3
import Derived.Test.YtoimnllcniefoaaDoorKPx4
import Derived.Test.YtoimnllcniefoaaDoorKPx6
import Derived.Test.YtoimnllcniefoaaDoorKRPx7
import Derived.Test.YtoimnllcniefoaaDoorKD
import Derived.Test.YtoimnllcniefoaaDoorKTa
import Derived.Test.YtoimnllcniefoaaDoorKVa
import Derived.Test.YtoimnllcniefoaaDoorKVb
import Derived.ProofKit
import Derived.OpenShut
import Derived.ShutString
import Derived.LaidMore
import Derived.LaidSub
import Derived.Lay
import Derived.SevenTiedAt
import Derived.Stop.Joined
import Derived.SliceStrings
import Derived.Lib.SmallJoins
import Derived.Test.YtoimnllcniefoaaDoorKRV
set_option linter.unusedVariables false
set_option linter.unusedSimpArgs false
/- What every row of the seat needs: the listed variables, the table that strconv.Itoa reads, a slice of strings as an argument. -/
namespace Go.Proofs.YtoimnllcniefoaaDoor.P
open Go.ChangeShapes Go.WideShapes Go.ChangeAt Go.RowKit
open Go.Proofs.YtoimnllcniefoaaDoor Go.Proofs.YtoimnllcniefoaaDoorW.PrintWords Go.Proofs.YtoimnllcniefoaaDoorW.PrintLast Go.Proofs.YtoimnllcniefoaaDoorW.PrintMore
set_option linter.unusedVariables false

theorem own : ownKnob Tryd.prog.godebug = none := by kernel_rfl
theorem laidOut : laidOutB Tryd.prog = true := by kernel_rfl
def laid : List (String × DataW Unit) := [("math/bits.deBruijn32tab", Rows.laid_math_bits_deBruijn32tab), ("math/bits.deBruijn64tab", Rows.laid_math_bits_deBruijn64tab), ("internal/strconv.uint64pow10", Rows.laid_internal_strconv_uint64pow10), ("unicode/utf8.acceptRanges", Rows.laid_unicode_utf8_acceptRanges), ("unicode/utf8.first", Rows.laid_unicode_utf8_first)]

theorem tabs_of_laid {W : World} (h : laidMetH Tryd.prog laid W) : Tabs W := by
  have h2 := h.filter (fun x => x.1 == "internal/strconv.uint64pow10")
  have e : laid.filter (fun x => x.1 == "internal/strconv.uint64pow10") = [("internal/strconv.uint64pow10", Lib.tabData .u64 Lib.pow10Tab)] := by kernel_rfl
  rw [e, MakeChecks.laidMetH_plain _ _ _ (by kernel_rfl)] at h2
  exact Lib.tabIs_of_head tabs_global (t := 138) (e := 80) (n := 20) (by kernel_rfl) Tryd.underlying138 Tryd.underlying80 (by kernel_rfl) (by kernel_rfl) h2

/-- The witness: a start in which the listed variables read as the row says. -/
theorem laid_met (os : Os) (args : Array Value) : laidMetH Tryd.prog laid ((World.laidAll Tryd.prog os laid).forCall (fun _ _ => 0) ⟨#[], args, []⟩).memory := by
  rw [MakeChecks.laidMetH_plain _ _ _ (by kernel_rfl)]
  exact laidMet_laidAll _ (by kernel_rfl) (by kernel_rfl)
theorem laid_shaped (os : Os) (args : Array Value) : ((World.laidAll Tryd.prog os laid).forCall (fun _ _ => 0) ⟨#[], args, []⟩).Shaped Tryd.prog :=
  World.shaped_of_ZipB (by kernel_rfl) (by kernel_rfl)

end Go.Proofs.YtoimnllcniefoaaDoor.P
/- Arguments that came in, as the print reads them: slices of whatever, seals, votes, rolls, certificates. -/
namespace Go.Proofs.YtoimnllcniefoaaDoor.P
open Go.ChangeShapes Go.WideShapes Go.ChangeAt Go.RowKit
open Go.Proofs.YtoimnllcniefoaaDoor Go.Proofs.YtoimnllcniefoaaDoorW.PrintWords Go.Proofs.YtoimnllcniefoaaDoorW.PrintLast Go.Proofs.YtoimnllcniefoaaDoorW.PrintMore
set_option linter.unusedVariables false

section
variable {H : Type} {enc : TypeId × Value → H} {W : World} {spare : Nat → Bool} {held : Bool}
theorem int_in {n : Nat} {cs : List Value} {x : DataW H × List MemPlace} (h : DataW.trod enc Tryd.prog W 0 spare held n 3 cs = some x) : ∃ a : Int, cs = [.int .i64 a] ∧ -9223372036854775808 ≤ a ∧ a ≤ 9223372036854775807 := by
  obtain ⟨a, e, _, hw⟩ := DataW.trod_int Tryd.underlying3 h
  refine ⟨a, e, ?_⟩
  simp [Lit.wf, IntKind.min, IntKind.max, IntKind.signed, IntKind.bits] at hw
  omega
theorem str_in {n : Nat} {cs : List Value} {x : DataW H × List MemPlace} (h : DataW.trod enc Tryd.prog W 0 spare held n 9 cs = some x) : ∃ a : ByteArray, cs = [.string a] ∧ a.size ≤ 9223372036854775807 := by
  obtain ⟨a, e, _, hw⟩ := DataW.trod_string Tryd.underlying9 h
  exact ⟨a, e, hw⟩
theorem bool_in {n : Nat} {cs : List Value} {x : DataW H × List MemPlace} (h : DataW.trod enc Tryd.prog W 0 spare held n 4 cs = some x) : ∃ a : Bool, cs = [.bool a] := by
  obtain ⟨a, e, _⟩ := DataW.trod_bool Tryd.underlying4 h
  exact ⟨a, e⟩

set_option maxRecDepth 100000 in
theorem slice_in {α : Type} {d : Kd α} {Q : α → Prop} {T e : TypeId} (ht : Tryd.prog.underlying T = some (.slice e)) (hz : Tryd.prog.cellsOf e = d.sz)
    (hel : ∀ n cs x, DataW.trod enc Tryd.prog W 0 spare held n e cs = some x → ∃ a, d.K W a cs ∧ Q a) {n : Nat} {cs : List Value} {x : DataW H × List MemPlace} (h : DataW.trod enc Tryd.prog W 0 spare held n T cs = some x) :
    ∃ (l : List α) (A : Option Addr) (c : Nat), cs = [.slice A l.length c] ∧ l.length ≤ c ∧ d.C W A l.length l ∧ ∀ a ∈ l, Q a := by
  rcases DataW.trod_slice ht h with ⟨rfl, _⟩ | ⟨ad, len, cap, elems, rest, m, _, rfl, _, _, hlc, hcm, hl, hE, _, _⟩
  · exact ⟨[], none, 0, rfl, Nat.le_refl _, ⟨rfl, by simp, fun h => by simp at h⟩, fun a ha => by cases ha⟩
  · have hp : ∀ i : Fin len, ∃ a : α, (∃ c, c.length = d.sz ∧ d.K W a c ∧ ∀ j u, c[j]? = some u → W.cell? (ad.add (i.1 * d.sz + j)) = some u) ∧ Q a := by
      intro i
      have h1 := hE i.1 i.2
      rw [List.getElem?_eq_getElem (by omega)] at h1
      obtain ⟨c, hc, ht⟩ := Option.bind_eq_some_iff.1 h1
      obtain ⟨a, hK, hQ⟩ := hel m c _ ht
      obtain ⟨_, hcl, hcc⟩ := World.cells?_some hc
      refine ⟨a, ⟨c, d.K_len hK, hK, fun j u hu => ?_⟩, hQ⟩
      have hj : j < Tryd.prog.cellsOf e := by
        have := (List.getElem?_eq_some_iff.1 hu).1
        omega
      have := hcc j hj
      rw [hu, hz] at this
      rw [← this]
      rw [Addr.add_add]
    obtain ⟨f, hf⟩ := Classical.axiomOfChoice hp
    have hlen : (List.ofFn f).length = len := List.length_ofFn
    have hcap : cap ≤ 9223372036854775807 := hcm
    refine ⟨List.ofFn f, some ad, cap, by rw [hlen], by omega, ⟨rfl, by omega, fun _ => ⟨ad, rfl, fun j p hpj => ?_⟩⟩, fun a ha => ?_⟩
    · obtain ⟨hj, hpe⟩ := List.getElem?_eq_some_iff.1 hpj
      rw [List.getElem_ofFn] at hpe
      subst hpe
      exact (hf ⟨j, by omega⟩).1
    · obtain ⟨i, rfl⟩ := List.mem_ofFn.1 ha
      exact (hf i).2

theorem strs_in {n : Nat} {cs : List Value} {x : DataW H × List MemPlace} (h : DataW.trod enc Tryd.prog W 0 spare held n 22 cs = some x) : ∃ (l : List ByteArray) (A : Option Addr) (c : Nat), cs = [.slice A l.length c] ∧ l.length ≤ c ∧ Kd.string.C W A l.length l := by
  obtain ⟨l, A, c, e, hc, hC, _⟩ := slice_in (d := Kd.string) (Q := fun _ => True) Tryd.underlying22 (by kernel_rfl) (fun n cs x h => by obtain ⟨a, e, _⟩ := str_in h; exact ⟨a, e, trivial⟩) h
  exact ⟨l, A, c, e, hc, hC⟩

theorem len7 {cs : List Value} (h : cs.length = 7) : ∃ a b c d e f g, cs = [a, b, c, d, e, f, g] := by
  match cs, h with
  | [a, b, c, d, e, f, g], _ => exact ⟨a, b, c, d, e, f, g, rfl⟩
theorem len5 {cs : List Value} (h : cs.length = 5) : ∃ a b c d e, cs = [a, b, c, d, e] := by
  match cs, h with
  | [a, b, c, d, e], _ => exact ⟨a, b, c, d, e, rfl⟩
theorem len3 {cs : List Value} (h : cs.length = 3) : ∃ a b c, cs = [a, b, c] := by
  match cs, h with
  | [a, b, c], _ => exact ⟨a, b, c, rfl⟩

/-- The field i of a struct that came in. -/
theorem field_in {fs : Array Field} {xs : List (DataW H × List MemPlace)} {n : Nat} {cs : List Value} (hl : xs.length = fs.size) (h : ∀ (i : Nat) (f : Field), fs[i]? = some f → DataW.trod enc Tryd.prog W 0 spare held n f.type ((cs.drop f.offset).take (Tryd.prog.cellsOf f.type)) = xs[i]?) (i : Nat) (f : Field) (hf : fs[i]? = some f) {T o c : Nat} (e1 : f.type = T) (e2 : f.offset = o) (e3 : Tryd.prog.cellsOf T = c) : ∃ x, DataW.trod enc Tryd.prog W 0 spare held n T ((cs.drop o).take c) = some x := by
  have h1 := h i f hf
  subst e1; subst e2; subst e3
  have hi : i < xs.length := by rw [hl]; exact (Array.getElem?_eq_some_iff.1 hf).1
  rw [List.getElem?_eq_getElem hi] at h1
  exact ⟨_, h1⟩

theorem seal_in {n : Nat} {cs : List Value} {x : DataW H × List MemPlace} (h : DataW.trod enc Tryd.prog W 0 spare held n 31 cs = some x) : ∃ a : S31, k31.K W a cs := by
  obtain ⟨xs, m, _, _, hl, hxl, hf⟩ := DataW.trod_struct Tryd.underlying31 h
  obtain ⟨v0, v1, v2, rfl⟩ := len3 (hl.trans (by kernel_rfl))
  obtain ⟨y0, t0⟩ := field_in hxl hf 0 _ rfl (T := 3) (o := 0) (c := 1) rfl rfl (by kernel_rfl)
  obtain ⟨y1, t1⟩ := field_in hxl hf 1 _ rfl (T := 22) (o := 1) (c := 1) rfl rfl (by kernel_rfl)
  obtain ⟨y2, t2⟩ := field_in hxl hf 2 _ rfl (T := 22) (o := 2) (c := 1) rfl rfl (by kernel_rfl)
  obtain ⟨a0, e0, _⟩ := int_in t0
  obtain ⟨l1, A1, c1, e1, g1, h1⟩ := strs_in t1
  obtain ⟨l2, A2, c2, e2, g2, h2⟩ := strs_in t2
  simp only [List.drop, List.take, List.cons.injEq, and_true] at e0 e1 e2
  subst e0; subst e1; subst e2
  exact ⟨⟨a0, l1, l2⟩, k31_mk W ⟨a0, l1, l2⟩ g1 h1 g2 h2⟩

/-- The whole numbers of a vote are of their kind. -/
def Wv (v : S33) : Prop := -9223372036854775808 ≤ v.f0 ∧ v.f0 ≤ 9223372036854775807 ∧ -9223372036854775808 ≤ v.f2 ∧ v.f2 ≤ 9223372036854775807

theorem vote_in {n : Nat} {cs : List Value} {x : DataW H × List MemPlace} (h : DataW.trod enc Tryd.prog W 0 spare held n 33 cs = some x) : ∃ a : S33, k33.K W a cs ∧ Wv a := by
  obtain ⟨xs, m, _, _, hl, hxl, hf⟩ := DataW.trod_struct Tryd.underlying33 h
  obtain ⟨v0, v1, v2, v3, v4, v5, v6, rfl⟩ := len7 (hl.trans (by kernel_rfl))
  obtain ⟨y0, t0⟩ := field_in hxl hf 0 _ rfl (T := 3) (o := 0) (c := 1) rfl rfl (by kernel_rfl)
  obtain ⟨y1, t1⟩ := field_in hxl hf 1 _ rfl (T := 9) (o := 1) (c := 1) rfl rfl (by kernel_rfl)
  obtain ⟨y2, t2⟩ := field_in hxl hf 2 _ rfl (T := 3) (o := 2) (c := 1) rfl rfl (by kernel_rfl)
  obtain ⟨y3, t3⟩ := field_in hxl hf 3 _ rfl (T := 4) (o := 3) (c := 1) rfl rfl (by kernel_rfl)
  obtain ⟨y4, t4⟩ := field_in hxl hf 4 _ rfl (T := 31) (o := 4) (c := 3) rfl rfl (by kernel_rfl)
  obtain ⟨a0, e0, b0⟩ := int_in t0
  obtain ⟨a1, e1, _⟩ := str_in t1
  obtain ⟨a2, e2, b2⟩ := int_in t2
  obtain ⟨a3, e3⟩ := bool_in t3
  obtain ⟨s, hs⟩ := seal_in t4
  obtain ⟨A1, c1, A2, c2, e4, g1, h1, g2, h2⟩ := k31_open hs
  simp only [List.drop, List.take, List.cons.injEq, and_true] at e0 e1 e2 e3 e4
  obtain ⟨e4, e5, e6⟩ := e4
  subst e0; subst e1; subst e2; subst e3; subst e4; subst e5; subst e6
  exact ⟨⟨a0, a1, a2, a3, s⟩, k33_mk W ⟨a0, a1, a2, a3, s⟩ g1 h1 g2 h2, b0.1, b0.2, b2.1, b2.2⟩

theorem votes_in {n : Nat} {cs : List Value} {x : DataW H × List MemPlace} (h : DataW.trod enc Tryd.prog W 0 spare held n 25 cs = some x) : ∃ (l : List S33) (A : Option Addr) (c : Nat), cs = [.slice A l.length c] ∧ l.length ≤ c ∧ k33.C W A l.length l ∧ ∀ v ∈ l, Wv v :=
  slice_in Tryd.underlying25 (by kernel_rfl) (fun n cs x h => vote_in h) h

set_option maxRecDepth 100000 in
theorem roll_in {v : Value} {d : DataW H} {p : List MemPlace} {r : Reach} {b0 : Nat} (hv : Value.okWide Tryd.prog W r b0 24 v) (h : DataW.Trod enc Tryd.prog W 0 spare held 24 v d p) :
    ∃ (a0 : Int) (A1 : Option Addr) (c1 : Nat) (l1 : List ByteArray) (a2 a3 a4 : Int), v = .agg #[.int .i64 a0, .slice A1 l1.length c1, .int .i64 a2, .int .i64 a3, .int .i64 a4] ∧ l1.length ≤ c1 ∧ Kd.string.C W A1 l1.length l1 := by
  obtain ⟨cs, rfl, hsz⟩ := okWide_struct Tryd.underlying24 hv
  obtain ⟨fuel, hf⟩ := h
  obtain ⟨xs, m, _, _, hl, hxl, hf⟩ := DataW.trod_struct Tryd.underlying24 hf
  obtain ⟨v0, v1, v2, v3, v4, hcs⟩ := len5 (hl.trans (by kernel_rfl))
  rw [hcs] at hf
  obtain ⟨y0, t0⟩ := field_in hxl hf 0 _ rfl (T := 3) (o := 0) (c := 1) rfl rfl (by kernel_rfl)
  obtain ⟨y1, t1⟩ := field_in hxl hf 1 _ rfl (T := 22) (o := 1) (c := 1) rfl rfl (by kernel_rfl)
  obtain ⟨y2, t2⟩ := field_in hxl hf 2 _ rfl (T := 3) (o := 2) (c := 1) rfl rfl (by kernel_rfl)
  obtain ⟨y3, t3⟩ := field_in hxl hf 3 _ rfl (T := 3) (o := 3) (c := 1) rfl rfl (by kernel_rfl)
  obtain ⟨y4, t4⟩ := field_in hxl hf 4 _ rfl (T := 3) (o := 4) (c := 1) rfl rfl (by kernel_rfl)
  obtain ⟨a0, e0, _⟩ := int_in t0
  obtain ⟨l1, A1, c1, e1, g1, h1⟩ := strs_in t1
  obtain ⟨a2, e2, _⟩ := int_in t2
  obtain ⟨a3, e3, _⟩ := int_in t3
  obtain ⟨a4, e4, _⟩ := int_in t4
  simp only [List.drop, List.take, List.cons.injEq, and_true] at e0 e1 e2 e3 e4
  subst e0; subst e1; subst e2; subst e3; subst e4
  exact ⟨a0, A1, c1, l1, a2, a3, a4, by rw [← Array.toArray_toList (xs := cs)]; exact congrArg (fun l => Value.agg l.toArray) hcs, g1, h1⟩

set_option maxRecDepth 100000 in
theorem cert_in {v : Value} {d : DataW H} {p : List MemPlace} {r : Reach} {b0 : Nat} (hv : Value.okWide Tryd.prog W r b0 27 v) (h : DataW.Trod enc Tryd.prog W 0 spare held 27 v d p) :
    ∃ (a0 : Int) (a1 : ByteArray) (A2 : Option Addr) (c2 : Nat) (l2 : List S33), v = .agg #[.int .i64 a0, .string a1, .slice A2 l2.length c2] ∧ l2.length ≤ c2 ∧ k33.C W A2 l2.length l2 ∧ ∀ v ∈ l2, Wv v := by
  obtain ⟨cs, rfl, hsz⟩ := okWide_struct Tryd.underlying27 hv
  obtain ⟨fuel, hf⟩ := h
  obtain ⟨xs, m, _, _, hl, hxl, hf⟩ := DataW.trod_struct Tryd.underlying27 hf
  obtain ⟨v0, v1, v2, hcs⟩ := len3 (hl.trans (by kernel_rfl))
  rw [hcs] at hf
  obtain ⟨y0, t0⟩ := field_in hxl hf 0 _ rfl (T := 3) (o := 0) (c := 1) rfl rfl (by kernel_rfl)
  obtain ⟨y1, t1⟩ := field_in hxl hf 1 _ rfl (T := 9) (o := 1) (c := 1) rfl rfl (by kernel_rfl)
  obtain ⟨y2, t2⟩ := field_in hxl hf 2 _ rfl (T := 25) (o := 2) (c := 1) rfl rfl (by kernel_rfl)
  obtain ⟨a0, e0, _⟩ := int_in t0
  obtain ⟨a1, e1, _⟩ := str_in t1
  obtain ⟨l2, A2, c2, e2, g2, h2, w2⟩ := votes_in t2
  simp only [List.drop, List.take, List.cons.injEq, and_true] at e0 e1 e2
  subst e0; subst e1; subst e2
  exact ⟨a0, a1, A2, c2, l2, by rw [← Array.toArray_toList (xs := cs)]; exact congrArg (fun l => Value.agg l.toArray) hcs, g2, h2, w2⟩

set_option maxRecDepth 100000 in
/-- The votes of a certificate lie within what the call's inputs may take. -/
theorem cert_reach {a0 : Int} {a1 : ByteArray} {A2 : Option Addr} {n c2 : Nat} {d : DataW H} {p : List MemPlace} (h : DataW.Trod enc Tryd.prog W 0 spare held 27 (.agg #[.int .i64 a0, .string a1, .slice A2 n c2]) d p) : n = 0 ∨ ∃ m ∈ d.weights Tryd.prog 27, n * 96 ≤ m := by
  obtain ⟨fuel, hf⟩ := h
  obtain ⟨xs, m, _, hx, hl, hxl, hf⟩ := DataW.trod_struct Tryd.underlying27 hf
  have h2 := hf 2 _ rfl
  have hi : 2 < xs.length := by rw [hxl]; decide
  rw [List.getElem?_eq_getElem hi] at h2
  have h3 : DataW.trod enc Tryd.prog W 0 spare held m 25 [.slice A2 n c2] = some xs[2] := h2
  rcases DataW.trod_slice Tryd.underlying25 h3 with ⟨e, _⟩ | ⟨ad, len, cap, elems, rest, m2, _, e, hx2, _, _, _, hle, _⟩
  · left
    simp only [List.cons.injEq, Value.slice.injEq, and_true] at e
    exact e.2.1
  · right
    simp only [List.cons.injEq, Value.slice.injEq, and_true] at e
    obtain ⟨_, rfl, _⟩ := e
    have hd : d = .agg (xs.map (·.1)) := congrArg Prod.fst hx
    have hw : ((elems.map (·.1)).length + (rest.map (·.1)).length) * Tryd.prog.bytesOf 33 ∈ (xs[2]).1.weights Tryd.prog 25 := by
      rw [hx2]
      unfold DataW.weights
      rw [Tryd.underlying25]
      exact List.mem_cons_self ..
    refine ⟨((elems.map (·.1)).length + (rest.map (·.1)).length) * Tryd.prog.bytesOf 33, ?_, ?_⟩
    · rw [hd]
      unfold DataW.weights
      rw [Tryd.underlying27]
      exact DataW.weights_mem_each (j := 2) (t := 25) (d := (xs[2]).1) rfl (by rw [List.getElem?_map, List.getElem?_eq_getElem hi]; rfl) _ hw
    · rw [show Tryd.prog.bytesOf 33 = 96 from by kernel_rfl, List.length_map, hle]
      exact Nat.mul_le_mul_right _ (Nat.le_add_right _ _)
set_option maxRecDepth 100000 in
theorem one_vote_in {v : Value} {d : DataW H} {p : List MemPlace} {r : Reach} {b0 : Nat} (hv : Value.okWide Tryd.prog W r b0 33 v) (h : DataW.Trod enc Tryd.prog W 0 spare held 33 v d p) :
    ∃ (x : S33) (A5 : Option Addr) (c5 : Nat) (A6 : Option Addr) (c6 : Nat), v = .agg #[.int .i64 x.f0, .string x.f1, .int .i64 x.f2, .bool x.f3, .int .i64 x.f4.f0, .slice A5 x.f4.f1.length c5, .slice A6 x.f4.f2.length c6] ∧ x.f4.f1.length ≤ c5 ∧ Kd.string.C W A5 x.f4.f1.length x.f4.f1 ∧ x.f4.f2.length ≤ c6 ∧ Kd.string.C W A6 x.f4.f2.length x.f4.f2 ∧ Wv x := by
  obtain ⟨cs, rfl, hsz⟩ := okWide_struct Tryd.underlying33 hv
  obtain ⟨fuel, hf⟩ := h
  obtain ⟨x, hK, hw⟩ := vote_in hf
  obtain ⟨A5, c5, A6, c6, hcs, g5, h5, g6, h6⟩ := k33_open hK
  exact ⟨x, A5, c5, A6, c6, by rw [← Array.toArray_toList (xs := cs)]; exact congrArg (fun l => Value.agg l.toArray) hcs, g5, h5, g6, h6, hw⟩
end
end Go.Proofs.YtoimnllcniefoaaDoor.P
/- The law VoteMany, walked: a certificate's first vote, repeated by members that there are not. -/
namespace Go.Proofs.YtoimnllcniefoaaDoor.P
open Go.RowKit Go.Proofs.YtoimnllcniefoaaDoor Go.Proofs.YtoimnllcniefoaaDoorW.PrintWords Go.Proofs.YtoimnllcniefoaaDoorW.PrintLast Go.Proofs.YtoimnllcniefoaaDoorW.PrintMore
set_option linter.unusedVariables false
set_option linter.unusedSimpArgs false

theorem infoVote : (Tryd.prog.info? 33).map (fun i => (i.zero, i.size, i.bytes)) = some (some (.agg #[.int .i64 0, .string ⟨#[]⟩, .int .i64 0, .bool false, .int .i64 0, .slice none 0 0, .slice none 0 0]), 7, 96) := by kernel_rfl
theorem C_unfix {α : Type} {d : Kd α} {w0 W : World} {A : Option Addr} {n : Nat} {xs : List α} (hb : Below w0.heap.size w0 W) (h : (Kd.fixed d w0).C W A n xs) : d.C W A n xs := by
  refine ⟨h.1, h.2.1, fun hn => ?_⟩
  obtain ⟨ad, e, hc⟩ := h.2.2 hn
  refine ⟨ad, e, fun j p hp => ?_⟩
  obtain ⟨c, h1, h2, h3⟩ := hc j p hp
  exact ⟨c, h1, d.K_below hb h2, h3⟩

/-- The boxes of the two arguments. -/
structure MaS (w : World) (ch : Int) (A1 : Option Addr) (n1 c1 : Nat) (q num den cch : Int) (bill : ByteArray) (A2 : Option Addr) (n2 c2 : Nat) (A : World) : Prop where
  below : Below w.heap.size w A
  ro : A.heap[w.heap.size]? = some (.cells #[.int .i64 ch, .slice A1 n1 c1, .int .i64 q, .int .i64 num, .int .i64 den] 24 (0, 0))
  ce : A.heap[w.heap.size + 1]? = some (.cells #[.int .i64 cch, .string bill, .slice A2 n2 c2] 27 (0, 0))
section
variable {w : World} {ch : Int} {A1 : Option Addr} {n1 c1 : Nat} {q num den cch : Int} {bill : ByteArray} {A2 : Option Addr} {n2 c2 : Nat} {A B : World}
theorem MaS.step (h : MaS w ch A1 n1 c1 q num den cch bill A2 n2 c2 A) (hb : Below A.heap.size A B) : MaS w ch A1 n1 c1 q num den cch bill A2 n2 c2 B := ⟨below_step h.below hb, blk_below h.ro hb, blk_below h.ce hb⟩
theorem MaS.cells (h : MaS w ch A1 n1 c1 q num den cch bill A2 n2 c2 A) :
    A.cell? ⟨w.heap.size, 0, none⟩ = some (.int .i64 ch) ∧ A.cell? ⟨w.heap.size, 1, none⟩ = some (.slice A1 n1 c1) ∧ A.cell? ⟨w.heap.size, 2, none⟩ = some (.int .i64 q) ∧ A.cell? ⟨w.heap.size, 3, none⟩ = some (.int .i64 num) ∧ A.cell? ⟨w.heap.size, 4, none⟩ = some (.int .i64 den) ∧
    A.cell? ⟨w.heap.size + 1, 0, none⟩ = some (.int .i64 cch) ∧ A.cell? ⟨w.heap.size + 1, 1, none⟩ = some (.string bill) ∧ A.cell? ⟨w.heap.size + 1, 2, none⟩ = some (.slice A2 n2 c2) :=
  ⟨(blk_cell h.ro 0).trans rfl, (blk_cell h.ro 1).trans rfl, (blk_cell h.ro 2).trans rfl, (blk_cell h.ro 3).trans rfl, (blk_cell h.ro 4).trans rfl, (blk_cell h.ce 0).trans rfl, (blk_cell h.ce 1).trans rfl, (blk_cell h.ce 2).trans rfl⟩
theorem MaS.new (w : World) (ch : Int) (A1 : Option Addr) (n1 c1 : Nat) (q num den cch : Int) (bill : ByteArray) (A2 : Option Addr) (n2 c2 : Nat) : MaS w ch A1 n1 c1 q num den cch bill A2 n2 c2 ((w.alloc (.cells #[.int .i64 ch, .slice A1 n1 c1, .int .i64 q, .int .i64 num, .int .i64 den] 24)).alloc (.cells #[.int .i64 cch, .string bill, .slice A2 n2 c2] 27)) :=
  ⟨upB (Below.refl _ _), blk_below (blk_new _ _) (upB (Below.refl _ _)), blk_one _ _ _⟩
theorem MaS.grown (h : MaS w ch A1 n1 c1 q num den cch bill A2 n2 c2 A) {v : Value} {α : Type} {d : Kd α} {xs : List α} {e : Nat} (hr : d.R e A w.heap.size (fun k => k ≠ w.heap.size ∧ k ≠ w.heap.size + 1) v xs) (hb : Below w.heap.size w B) (hg : A.grownBy B v.ownBlock) : MaS w ch A1 n1 c1 q num den cch bill A2 n2 c2 B :=
  ⟨hb, blk_grown h.ro hg (fun e => (hr.1 _ e.symm).1 rfl), blk_grown h.ce hg (fun e => (hr.1 _ e.symm).2 rfl)⟩
end

end Go.Proofs.YtoimnllcniefoaaDoor.P
/- The law VoteOthers, walked: the votes that count, from the last to the first. -/
namespace Go.Proofs.YtoimnllcniefoaaDoor.Vo
open Go Go.Proofs.YtoimnllcniefoaaDoor Go.Proofs.YtoimnllcniefoaaDoor.P
section
variable {ok : V → Bool}
theorem bad_lt (l : List V) : ∀ j, j ≤ l.length → ∀ x ∈ (cnt ok l j).bad, x < (j : Int) := by
  intro j
  induction j with
  | zero => intro _ x hx; cases hx
  | succ j ih =>
    intro h x hx
    rw [cnt_succ _ _ h] at hx
    unfold step at hx
    split at hx
    · have hx2 : x ∈ (cnt ok l j).bad := by split at hx <;> exact hx
      have := ih (by omega) x hx2
      omega
    · rcases List.mem_append.1 hx with hx | hx
      · have := ih (by omega) x hx
        omega
      · rw [List.mem_singleton.1 hx]; omega

end
end Go.Proofs.YtoimnllcniefoaaDoor.Vo
namespace Go.Proofs.YtoimnllcniefoaaDoor.P
open Go.RowKit Go.Proofs.YtoimnllcniefoaaDoor Go.Proofs.YtoimnllcniefoaaDoorW.PrintWords Go.Proofs.YtoimnllcniefoaaDoorW.PrintLast Go.Proofs.YtoimnllcniefoaaDoorW.PrintMore
set_option linter.unusedVariables false
set_option linter.unusedSimpArgs false

/-- The box of the roll. -/
structure RoS (w : World) (ch : Int) (A1 : Option Addr) (n1 c1 : Nat) (q num den : Int) (A : World) : Prop where
  below : Below w.heap.size w A
  ro : A.heap[w.heap.size]? = some (.cells #[.int .i64 ch, .slice A1 n1 c1, .int .i64 q, .int .i64 num, .int .i64 den] 24 (0, 0))
section
variable {w : World} {ch : Int} {A1 : Option Addr} {n1 c1 : Nat} {q num den : Int} {A B : World}
theorem RoS.step (h : RoS w ch A1 n1 c1 q num den A) (hb : Below A.heap.size A B) : RoS w ch A1 n1 c1 q num den B := ⟨below_step h.below hb, blk_below h.ro hb⟩
theorem RoS.cells (h : RoS w ch A1 n1 c1 q num den A) : A.cell? ⟨w.heap.size, 0, none⟩ = some (.int .i64 ch) ∧ A.cell? ⟨w.heap.size, 1, none⟩ = some (.slice A1 n1 c1) ∧ A.cell? ⟨w.heap.size, 2, none⟩ = some (.int .i64 q) ∧ A.cell? ⟨w.heap.size, 3, none⟩ = some (.int .i64 num) ∧ A.cell? ⟨w.heap.size, 4, none⟩ = some (.int .i64 den) :=
  ⟨(blk_cell h.ro 0).trans rfl, (blk_cell h.ro 1).trans rfl, (blk_cell h.ro 2).trans rfl, (blk_cell h.ro 3).trans rfl, (blk_cell h.ro 4).trans rfl⟩
theorem RoS.new (w : World) (ch : Int) (A1 : Option Addr) (n1 c1 : Nat) (q num den : Int) : RoS w ch A1 n1 c1 q num den (w.alloc (.cells #[.int .i64 ch, .slice A1 n1 c1, .int .i64 q, .int .i64 num, .int .i64 den] 24)) :=
  ⟨upB (Below.refl _ _), blk_new _ _⟩
end

theorem int_at {w W : World} {A : Option Addr} {l : List Int} (h : Kd.C (Kd.int .i64) w A l.length l) (hb : Below w.heap.size w W) (q : Nat) (b : Int) (hq : l[q]? = some b) : ∃ ad, A = some ad ∧ W.cell? (ad.add q) = some (.int .i64 b) := by
  obtain ⟨hlt, rfl⟩ := List.getElem?_eq_some_iff.1 hq
  obtain ⟨ad, e, hc⟩ := Kd.at_int (Kd.C_below h hb) (q : Int) (by omega) (by omega)
  refine ⟨ad, e, ?_⟩
  rw [Int.toNat_natCast] at hc
  rw [hc]
  show some (Value.int .i64 (l.getD (Int.toNat (q : Int)) 0)) = _
  rw [Int.toNat_natCast, List.getD_eq_getElem?_getD, List.getElem?_eq_getElem hlt]
  rfl

end Go.Proofs.YtoimnllcniefoaaDoor.P
/- The law VoteMore, walked: one vote more that counts. GENERATED by gen_vote4.py -/
namespace Go.Proofs.YtoimnllcniefoaaDoor.Vo
open Go Go.Proofs.YtoimnllcniefoaaDoor Go.Proofs.YtoimnllcniefoaaDoor.P Go.Proofs.YtoimnllcniefoaaDoorW.PrintWords

theorem count_snoc (ch : Int) (keys : List ByteArray) (q num den : Int) (bill : ByteArray) (l : List V) (v : V) : count ch keys q num den bill (l ++ [v]) = step (okv ch keys q num den bill) (count ch keys q num den bill l) l.length v := by
  unfold count
  rw [List.length_append, List.length_cons, List.length_nil, cnt_succ _ _ (by simp), cnt_append _ _ _ (Nat.le_refl _)]
  simp
theorem more_no (ch : Int) (keys : List ByteArray) (q num den : Int) (bill : ByteArray) (l : List V) (v : V) (h : counts (okv ch keys q num den bill) (count ch keys q num den bill l) v = false) : (count ch keys q num den bill (l ++ [v])).bad = (count ch keys q num den bill l).bad ++ [(l.length : Int)] := by
  rw [count_snoc]; unfold step; rw [if_neg (by rw [h]; decide)]
theorem more_yes (ch : Int) (keys : List ByteArray) (q num den cch : Int) (bill : ByteArray) (l : List V) (hl : l.length ≤ 100) (v : V) (h : counts (okv ch keys q num den bill) (count ch keys q num den bill l) v = true) :
    (∀ x ∈ (count ch keys q num den bill (l ++ [v])).bad, x ≠ (l.length : Int)) ∧ (carried ch keys q num den cch bill l = 0 → v.f3 = true → carried ch keys q num den cch bill (l ++ [v]) = 0) ∧ (carried ch keys q num den cch bill l = 12 → v.f3 = false → carried ch keys q num den cch bill (l ++ [v]) = 12) := by
  have hs := count_snoc ch keys q num den bill l v
  unfold step at hs
  rw [if_pos h] at hs
  refine ⟨?_, ?_, ?_⟩
  · intro x hx
    have hb : (count ch keys q num den bill (l ++ [v])).bad = (count ch keys q num den bill l).bad := by rw [hs]; split <;> rfl
    rw [hb] at hx
    have := bad_lt (ok := okv ch keys q num den bill) l l.length (Nat.le_refl _) x hx
    omega
  · intro hw hy
    rw [if_pos hy] at hs
    unfold carried at hw ⊢
    split at hw
    · cases hw
    · rename_i hg
      rw [if_neg hg]
      have hp : proper ch keys q num den = true := by
        cases hp : proper ch keys q num den with
        | true => rfl
        | false => exact absurd (.inl hp) hg
      obtain ⟨_, _, _, p4, _, p6, p7, p8, _⟩ := proper_true hp
      rw [if_neg (by omega)] at hw
      rw [if_neg (by rw [List.length_append, List.length_cons, List.length_nil]; omega), hs]
      dsimp only
      generalize (count ch keys q num den bill l).yes = y at hw ⊢
      generalize (count ch keys q num den bill l).no = n at hw ⊢
      split at hw
      · cases hw
      · split at hw
        · cases hw
        · rename_i g1 g2
          rw [if_neg (by omega), if_neg]
          have e1 : den * (y + 1) = den * y + den := by rw [Int.mul_add, Int.mul_one]
          have e2 : num * (y + 1 + n) = num * (y + n) + num := by rw [show y + 1 + n = (y + n) + 1 by omega, Int.mul_add, Int.mul_one]
          rw [e1, e2]; omega
  · intro hw hy
    rw [if_neg (by rw [hy]; decide)] at hs
    unfold carried at hw ⊢
    split at hw
    · cases hw
    · rename_i hg
      rw [if_neg hg]
      have hp : proper ch keys q num den = true := by
        cases hp : proper ch keys q num den with
        | true => rfl
        | false => exact absurd (.inl hp) hg
      obtain ⟨_, _, _, p4, _, p6, p7, p8, _⟩ := proper_true hp
      rw [if_neg (by omega)] at hw
      rw [if_neg (by rw [List.length_append, List.length_cons, List.length_nil]; omega), hs]
      dsimp only
      generalize (count ch keys q num den bill l).yes = y at hw ⊢
      generalize (count ch keys q num den bill l).no = n at hw ⊢
      split at hw
      · cases hw
      · split at hw
        · rename_i g1 g2
          rw [if_neg (by omega), if_pos]
          have e2 : num * (y + (n + 1)) = num * (y + n) + num := by rw [show y + (n + 1) = (y + n) + 1 by omega, Int.mul_add, Int.mul_one]
          rw [e2]; omega
        · cases hw
end Go.Proofs.YtoimnllcniefoaaDoor.Vo
namespace Go.Proofs.YtoimnllcniefoaaDoor.P
open Go.RowKit Go.Proofs.YtoimnllcniefoaaDoor Go.Proofs.YtoimnllcniefoaaDoorW.PrintWords Go.Proofs.YtoimnllcniefoaaDoorW.PrintLast Go.Proofs.YtoimnllcniefoaaDoorW.PrintMore
set_option linter.unusedVariables false
set_option linter.unusedSimpArgs false

theorem C_fix {α : Type} {d : Kd α} {w W : World} {A : Option Addr} {n : Nat} {xs : List α} (hb : Below w.heap.size w W) (h : d.C w A n xs) : (Kd.fixed d w).C W A n xs := by
  refine ⟨h.1, h.2.1, fun hn => ?_⟩
  obtain ⟨ad, e, hc⟩ := h.2.2 hn
  refine ⟨ad, e, fun j p hp => ?_⟩
  obtain ⟨c, h1, h2, h3⟩ := hc j p hp
  refine ⟨c, h1, h2, fun i u hu => ?_⟩
  have h4 := h3 i u hu
  have hlt : (ad.add (j * d.sz + i)).block < w.heap.size := by
    rcases Nat.lt_or_ge (ad.add (j * d.sz + i)).block w.heap.size with h' | h'
    · exact h'
    · unfold World.cell? at h4
      simp [Array.getElem?_eq_none h'] at h4
  exact (hb.cell hlt).trans h4

/-- The boxes of the three arguments. -/
structure MoS (w : World) (ch : Int) (A1 : Option Addr) (n1 c1 : Nat) (q num den cch : Int) (bill : ByteArray) (A2 : Option Addr) (n2 c2 : Nat) (x : Vo.V) (A5 : Option Addr) (c5 : Nat) (A6 : Option Addr) (c6 : Nat) (A : World) : Prop where
  ma : MaS w ch A1 n1 c1 q num den cch bill A2 n2 c2 A
  vo : A.heap[w.heap.size + 1 + 1]? = some (.cells #[.int .i64 x.f0, .string x.f1, .int .i64 x.f2, .bool x.f3, .int .i64 x.f4.f0, .slice A5 x.f4.f1.length c5, .slice A6 x.f4.f2.length c6] 33 (0, 0))
def MoC (w : World) (ch : Int) (A1 : Option Addr) (n1 c1 : Nat) (q num den cch : Int) (bill : ByteArray) (A2 : Option Addr) (n2 c2 : Nat) (x : Vo.V) (A5 : Option Addr) (c5 : Nat) (A6 : Option Addr) (c6 : Nat) (A : World) : Prop :=
  A.cell? ⟨w.heap.size, 0, none⟩ = some (.int .i64 ch) ∧ A.cell? ⟨w.heap.size, 1, none⟩ = some (.slice A1 n1 c1) ∧ A.cell? ⟨w.heap.size, 2, none⟩ = some (.int .i64 q) ∧ A.cell? ⟨w.heap.size, 3, none⟩ = some (.int .i64 num) ∧ A.cell? ⟨w.heap.size, 4, none⟩ = some (.int .i64 den) ∧
    A.cell? ⟨w.heap.size + 1, 0, none⟩ = some (.int .i64 cch) ∧ A.cell? ⟨w.heap.size + 1, 1, none⟩ = some (.string bill) ∧ A.cell? ⟨w.heap.size + 1, 2, none⟩ = some (.slice A2 n2 c2) ∧
    A.cell? ⟨w.heap.size + 1 + 1, 0, none⟩ = some (.int .i64 x.f0) ∧ A.cell? ⟨w.heap.size + 1 + 1, 1, none⟩ = some (.string x.f1) ∧ A.cell? ⟨w.heap.size + 1 + 1, 2, none⟩ = some (.int .i64 x.f2) ∧ A.cell? ⟨w.heap.size + 1 + 1, 3, none⟩ = some (.bool x.f3) ∧ A.cell? ⟨w.heap.size + 1 + 1, 4, none⟩ = some (.int .i64 x.f4.f0) ∧ A.cell? ⟨w.heap.size + 1 + 1, 5, none⟩ = some (.slice A5 x.f4.f1.length c5) ∧ A.cell? ⟨w.heap.size + 1 + 1, 6, none⟩ = some (.slice A6 x.f4.f2.length c6)
section
variable {w : World} {ch : Int} {A1 : Option Addr} {n1 c1 : Nat} {q num den cch : Int} {bill : ByteArray} {A2 : Option Addr} {n2 c2 : Nat} {x : Vo.V} {A5 : Option Addr} {c5 : Nat} {A6 : Option Addr} {c6 : Nat} {A B : World}
theorem MoS.step (h : MoS w ch A1 n1 c1 q num den cch bill A2 n2 c2 x A5 c5 A6 c6 A) (hb : Below A.heap.size A B) : MoS w ch A1 n1 c1 q num den cch bill A2 n2 c2 x A5 c5 A6 c6 B := ⟨h.ma.step hb, blk_below h.vo hb⟩
theorem MoS.cells (h : MoS w ch A1 n1 c1 q num den cch bill A2 n2 c2 x A5 c5 A6 c6 A) : MoC w ch A1 n1 c1 q num den cch bill A2 n2 c2 x A5 c5 A6 c6 A := by
  obtain ⟨q0, q1, q2, q3, q4, q5, q6, q7⟩ := h.ma.cells
  exact ⟨q0, q1, q2, q3, q4, q5, q6, q7, (blk_cell h.vo 0).trans rfl, (blk_cell h.vo 1).trans rfl, (blk_cell h.vo 2).trans rfl, (blk_cell h.vo 3).trans rfl, (blk_cell h.vo 4).trans rfl, (blk_cell h.vo 5).trans rfl, (blk_cell h.vo 6).trans rfl⟩
theorem MoS.new (w : World) (ch : Int) (A1 : Option Addr) (n1 c1 : Nat) (q num den cch : Int) (bill : ByteArray) (A2 : Option Addr) (n2 c2 : Nat) (x : Vo.V) (A5 : Option Addr) (c5 : Nat) (A6 : Option Addr) (c6 : Nat) : MoS w ch A1 n1 c1 q num den cch bill A2 n2 c2 x A5 c5 A6 c6 (((w.alloc (.cells #[.int .i64 ch, .slice A1 n1 c1, .int .i64 q, .int .i64 num, .int .i64 den] 24)).alloc (.cells #[.int .i64 cch, .string bill, .slice A2 n2 c2] 27)).alloc (.cells #[.int .i64 x.f0, .string x.f1, .int .i64 x.f2, .bool x.f3, .int .i64 x.f4.f0, .slice A5 x.f4.f1.length c5, .slice A6 x.f4.f2.length c6] 33)) :=
  ⟨(MaS.new w ch A1 n1 c1 q num den cch bill A2 n2 c2).step (upB (Below.refl _ _)), blk_two _ _ _ _⟩
end


theorem few_snoc (k : Nat) (ch : Int) (A1 : Option Addr) (c1 : Nat) (l1 : List ByteArray) (q num den : Int) (A : Option Addr) (c : Nat) (l : List Vo.V) (x : Vo.V) (r : Bool) (w : World) (hr1 : Kd.C Kd.string w A1 l1.length l1) (hc1 : l1.length ≤ c1) (hr : Kd.C k33 w A (l ++ [x]).length (l ++ [x])) (hc : (l ++ [x]).length ≤ c) (h : pandectlaw39_few.f k ch l1 q num den (l ++ [x]) = some r) :
    Calls Tryd.prog 10 #[.agg #[.int .i64 ch, .slice A1 l1.length c1, .int .i64 q, .int .i64 num, .int .i64 den], .slice A (l.length + 1) c] w fun e w' => e = .returned (.bool r) ∧ Below w.heap.size w w' := by
  have := pandectlaw39_few.calls k ch A1 c1 l1 q num den A c (l ++ [x]) r w hr1 hc1 hr hc h
  rwa [show (l ++ [x]).length = l.length + 1 by simp] at this
theorem count_snocC (k : Nat) (ch : Int) (A1 : Option Addr) (c1 : Nat) (l1 : List ByteArray) (q num den : Int) (bill : ByteArray) (A : Option Addr) (c : Nat) (l : List Vo.V) (x : Vo.V) (r1 r2 : Int) (r3 : List Int) (w : World) (hr1 : Kd.C Kd.string w A1 l1.length l1) (hc1 : l1.length ≤ c1) (hr : Kd.C k33 w A (l ++ [x]).length (l ++ [x])) (hc : (l ++ [x]).length ≤ c) (hT : Tabs w) (h : vote_Count.f k ch l1 q num den bill (l ++ [x]) = some (r1, r2, r3)) :
    Calls Tryd.prog 12 #[.agg #[.int .i64 ch, .slice A1 l1.length c1, .int .i64 q, .int .i64 num, .int .i64 den], .string bill, .slice A (l.length + 1) c] w fun e w' => ∃ v, e = .returned (.tuple #[.int .i64 r1, .int .i64 r2, v]) ∧ Kd.R (Kd.int .i64) 3 w' w.heap.size (fun _ => True) v r3 ∧ Below w.heap.size w w' := by
  have := vote_Count.calls k ch A1 c1 l1 q num den bill A c (l ++ [x]) r1 r2 r3 w hr1 hc1 hr hc hT h
  rwa [show (l ++ [x]).length = l.length + 1 by simp] at this
theorem carried_snoc (k : Nat) (ch : Int) (A1 : Option Addr) (c1 : Nat) (l1 : List ByteArray) (q num den cch : Int) (bill : ByteArray) (A : Option Addr) (c : Nat) (l : List Vo.V) (x : Vo.V) (r : Int) (w : World) (hr1 : Kd.C Kd.string w A1 l1.length l1) (hc1 : l1.length ≤ c1) (hr : Kd.C k33 w A (l ++ [x]).length (l ++ [x])) (hc : (l ++ [x]).length ≤ c) (hT : Tabs w) (h : vote_Carried.f k ch l1 q num den cch bill (l ++ [x]) = some r) :
    Calls Tryd.prog 11 #[.agg #[.int .i64 ch, .slice A1 l1.length c1, .int .i64 q, .int .i64 num, .int .i64 den], .agg #[.int .i64 cch, .string bill, .slice A (l.length + 1) c]] w fun e w' => e = .returned (.int .i64 r) ∧ Below w.heap.size w w' := by
  have := vote_Carried.calls k ch A1 c1 l1 q num den cch bill A c (l ++ [x]) r w hr1 hc1 hr hc hT h
  rwa [show (l ++ [x]).length = l.length + 1 by simp] at this


set_option maxHeartbeats 16000000 in
set_option maxRecDepth 100000 in
theorem more_few (ch : Int) (A1 : Option Addr) (c1 : Nat) (l1 : List ByteArray) (q num den cch : Int) (bill : ByteArray) (A2 : Option Addr) (c2 : Nat) (l2 : List Vo.V) (x : Vo.V) (A5 : Option Addr) (c5 : Nat) (A6 : Option Addr) (c6 : Nat) (w : World) (hr1 : Kd.C Kd.string w A1 l1.length l1) (hc1 : l1.length ≤ c1) (hr2 : Kd.C k33 w A2 l2.length l2) (hc2 : l2.length ≤ c2) (hvi : VoteIs x A5 c5 A6 c6 w) (hT : Tabs w) (hl96 : l2.length * 96 ≤ 140737488351232) (hf : pandectlaw39_few.f 5000 ch l1 q num den (l2 ++ [x]) = some false) :
    Calls Tryd.prog 6 #[.agg #[.int .i64 ch, .slice A1 l1.length c1, .int .i64 q, .int .i64 num, .int .i64 den], .agg #[.int .i64 cch, .string bill, .slice A2 l2.length c2], .agg #[.int .i64 x.f0, .string x.f1, .int .i64 x.f2, .bool x.f3, .int .i64 x.f4.f0, .slice A5 x.f4.f1.length c5, .slice A6 x.f4.f2.length c6]] w fun e w' => e = .returned (.bool true) ∧ Below w.heap.size w w' := by
  have HS := Lib.hid (MoS.new w ch A1 l1.length c1 q num den cch bill A2 l2.length c2 x A5 c5 A6 c6)
  have HH := Lib.hid (fun W hT => pandectlaw39_head.calls 5000 true W hT (head_is 5000 (by decide)))
  have HT := Lib.hid hT
  have HR1 := Lib.hid hr1
  have HC1 := Lib.hid hc1
  have HR2 := Lib.hid hr2
  have HC2 := Lib.hid hc2
  have HVI := Lib.hid hvi
  have H96 := Lib.hid hl96
  clear hr1 hc1 hr2 hc2 hT hvi hl96
  have HF := Lib.hid hf
  clear hf
  go_enter Tryd.func6, Tryd.ntmps6
  go_wp2_with fail
  refine (HH.out _ (tabs_below HT.out HS.out.ma.below)).mono ?_
  rintro e w1 ⟨rfl, hb⟩
  replace HS := Lib.hid (HS.out.step hb)
  clear hb
  go_wp2_with fail
  replace HS := Lib.hid (HS.out.step (Below.refl _ _).drew)
  refine start_ (n := 8) (S := fun w' => MoC w ch A1 l1.length c1 q num den cch bill A2 l2.length c2 x A5 c5 A6 c6 w') (ds := []) #[false, false, false, false, false, false, false, false] (by kernel_rfl) rfl rfl (HS.out.cells) (fun hHeld => ?_)
  generalize World.drew _ = w2 at HS hHeld ⊢
  have HW0 := HS
  refine pure_ (i := 1) (N := some 16) (v := ?_) (a' := ?_) #[false, true, false, false, false, false, false, false] rfl rfl (by kernel_rfl) (fun _ _ _ h => h) (Or.inl ⟨by rfl, ?_⟩) ?_ ?_
  rotate_left
  · intro w'
    go_simp
    with_reducible rfl
  rotate_left
  · simp only [Act.put, List.setIfInBounds_toArray, List.set_cons_zero, List.set_cons_succ, i64_w, i32_w]
    rfl
  refine take_ (i := 2) (N := some 17) (v := ?_) (a' := ?_) #[false, true, true, false, false, false, false, false] rfl rfl (by kernel_rfl) (fun _ _ _ h => h) (Or.inl ⟨by rfl, ?_⟩) hHeld ?_ ?_
  rotate_left
  · rintro w' ⟨s0, s1, s2, s3, s4, s5, s6, s7, s8, s9, s10, s11, s12, s13, s14⟩
    go_simp
    with_reducible rfl
  rotate_left
  · simp only [Act.put, List.setIfInBounds_toArray, List.set_cons_zero, List.set_cons_succ, i64_w, i32_w]
    rfl
  refine take_ (i := 4) (N := some 19) (v := ?_) (a' := ?_) #[false, true, true, false, true, false, false, false] rfl rfl (by kernel_rfl) (fun _ _ _ h => h) (Or.inl ⟨by rfl, ?_⟩) hHeld ?_ ?_
  rotate_left
  · rintro w' ⟨s0, s1, s2, s3, s4, s5, s6, s7, s8, s9, s10, s11, s12, s13, s14⟩
    go_simp
    with_reducible rfl
  rotate_left
  · simp only [Act.put, List.setIfInBounds_toArray, List.set_cons_zero, List.set_cons_succ, i64_w, i32_w]
    rfl
  refine join_ (σ := Value × Value × Nat) 2 #[true, true, true, true, true, true, false, false] (fun s => [(15, s.1), (18, s.2.1), (20, .slice (some ⟨s.2.2, 0, none⟩) 1 1)]) (fun s W => MoS w ch A1 l1.length c1 q num den cch bill A2 l2.length c2 x A5 c5 A6 c6 W ∧ Below w2.heap.size w2 W ∧ Kd.R (Kd.fixed k33 w) 33 W w2.heap.size (fun _ => True) s.2.1 l2 ∧ W.heap[s.2.2]? = some (.cells #[.int .i64 x.f0, .string x.f1, .int .i64 x.f2, .bool x.f3, .int .i64 x.f4.f0, .slice A5 x.f4.f1.length c5, .slice A6 x.f4.f2.length c6] 33 (0, 0)) ∧ some s.2.2 ≠ s.2.1.ownBlock) ?cont ?orders
  case orders =>
    intro HJ
    have HW : Hid (Below w2.heap.size w2 w2) := Lib.hid (Below.refl _ _)
    refine two_ (i := 0) (j := 5) (Ni := some 15) (Nj := some 20) #[true, true, true, false, true, false, false, false] #[false, true, true, false, true, true, false, false] rfl rfl rfl rfl (by kernel_rfl) (by decide) (by decide) (fun K hK => ?_) (fun K hK => ?_)
    · skip
      refine Kd.R_lit_step (Kd.fixed k33 w) (w0 := w2) w2.heap.size 33 (by rfl) (N := 15) rfl (xs := []) (inner := []) (okp := fun _ => True) (ok := fun _ => True) (by first | (go_simp; done) | (go_simp; constructor <;> rfl)) (Reps.none _ _) (fun _ _ => trivial) trivial HW.out HW.out.size (by simp) ?_
      intro v0 wa ho0 hb0 hg0 hat0
      have HS0 := Lib.hid (HW0.out.step hb0)
      refine hK.out _ _ (HS0.out.cells) (fun hHeld => ?_)
      clear hK K
      refine norm_ (a' := ?_) ?_ ?_
      rotate_left
      · show Act.put _ (some 15) _ = _
        simp only [Act.put, List.setIfInBounds_toArray, List.set_cons_zero, List.set_cons_succ, i64_w, i32_w]
        rfl
      have HWA := Lib.hid hb0
      have HOA := Lib.hid ho0
      clear hb0 ho0
      refine two_ (i := 3) (j := 5) (Ni := some 18) (Nj := some 20) #[true, true, true, true, true, false, false, false] #[true, true, true, false, true, true, false, false] rfl rfl rfl rfl (by kernel_rfl) (by decide) (by decide) (fun K hK => ?_) (fun K hK => ?_)
      · skip
        refine Kd.R_append_rows_step (Kd.fixed k33 w) (w0 := w2) w2.heap.size (by rfl) (.tmp 15) (.tmp 17) 25 33 _ 96 rfl Tryd.underlying25 infoVote rfl (by show 0 < 7; decide) (by omega) v0 [] l2 A2 l2.length c2 (fun _ => True) (fun _ => False) rfl rfl HOA.out (C_fix (below_step HW0.out.ma.below HWA.out) HR2.out) (fun _ _ h => h) (fun _ hk => hk.elim) (fun _ _ => trivial) HWA.out HWA.out.size (by have := H96.out; simp; omega) ?_
        intro v1 wb ho1 hb1 hg1 hat1
        have HS1 := Lib.hid (HW0.out.step hb1)
        refine hK.out _ _ (HS1.out.cells) (fun hHeld => ?_)
        clear hK K
        refine norm_ (a' := ?_) ?_ ?_
        rotate_left
        · show Act.put _ (some 18) _ = _
          simp only [Act.put, List.setIfInBounds_toArray, List.set_cons_zero, List.set_cons_succ, i64_w, i32_w]
          rfl
        refine one_ (i := 5) (N := some 20) #[true, true, true, true, true, true, false, false] rfl rfl (by kernel_rfl) (by decide) (fun K hK => ?_)
        refine value_ (w1 := ?_) (v := ?_) (by rfl) rfl ?_ ?_
        rotate_left 2
        · go_simp
          constructor
          · rfl
          · rfl
        have hup : Below wb.heap.size wb (wb.alloc (.cells #[.int .i64 x.f0, .string x.f1, .int .i64 x.f2, .bool x.f3, .int .i64 x.f4.f0, .slice A5 x.f4.f1.length c5, .slice A6 x.f4.f2.length c6] 33)) := upB (Below.refl _ _)
        refine hK.out _ _ (HS1.out.step hup).cells (fun hHeld => ?_)
        clear hK K
        refine norm_ (a' := ?_) ?_ ?_
        rotate_left
        · show Act.put _ (some 20) _ = _
          simp only [Act.put, List.setIfInBounds_toArray, List.set_cons_zero, List.set_cons_succ, i64_w, i32_w]
          rfl
        refine HJ (v0, v1, wb.heap.size) _ ⟨HS1.out.step hup, below_step hb1 hup, ?_, blk_new _ _, ?_⟩
        · exact Kd.R_below (by simpa using ho1) hup
        · show some wb.heap.size ≠ v1.ownBlock
          intro e; have := Kd.R_lt ho1 _ e.symm; omega
      · skip
        refine value_ (w1 := ?_) (v := ?_) (by rfl) rfl ?_ ?_
        rotate_left 2
        · go_simp
          constructor
          · rfl
          · rfl
        have hup : Below wa.heap.size wa (wa.alloc (.cells #[.int .i64 x.f0, .string x.f1, .int .i64 x.f2, .bool x.f3, .int .i64 x.f4.f0, .slice A5 x.f4.f1.length c5, .slice A6 x.f4.f2.length c6] 33)) := upB (Below.refl _ _)
        have HSc := Lib.hid (HS0.out.step hup)
        have HWC := Lib.hid (below_step HWA.out hup)
        have HOC := Lib.hid (Kd.R_below HOA.out hup)
        have hbg := blk_new wa (.cells #[.int .i64 x.f0, .string x.f1, .int .i64 x.f2, .bool x.f3, .int .i64 x.f4.f0, .slice A5 x.f4.f1.length c5, .slice A6 x.f4.f2.length c6] 33)
        have hne : some wa.heap.size ≠ v0.ownBlock := fun e => by have := Kd.R_lt HOA.out _ e.symm; omega
        have HBG := Lib.hid hbg
        have HNE := Lib.hid hne
        clear hup hbg hne
        refine hK.out _ _ HSc.out.cells (fun hHeld => ?_)
        clear hK K
        refine norm_ (a' := ?_) ?_ ?_
        rotate_left
        · show Act.put _ (some 20) _ = _
          simp only [Act.put, List.setIfInBounds_toArray, List.set_cons_zero, List.set_cons_succ, i64_w, i32_w]
          rfl
        generalize wa.alloc _ = wc at HSc HWC HOC HBG hHeld ⊢
        refine one_ (i := 3) (N := some 18) #[true, true, true, true, true, true, false, false] rfl rfl (by kernel_rfl) (by decide) (fun K hK => ?_)
        refine Kd.R_append_rows_step (Kd.fixed k33 w) (w0 := w2) w2.heap.size (by rfl) (.tmp 15) (.tmp 17) 25 33 _ 96 rfl Tryd.underlying25 infoVote rfl (by show 0 < 7; decide) (by omega) v0 [] l2 A2 l2.length c2 (fun _ => True) (fun _ => False) rfl rfl HOC.out (C_fix (below_step HW0.out.ma.below HWC.out) HR2.out) (fun _ _ h => h) (fun _ hk => hk.elim) (fun _ _ => trivial) HWC.out HWC.out.size (by have := H96.out; simp; omega) ?_
        intro v1 wd ho1 hb1 hg1 hat1
        have HS1 := Lib.hid (HW0.out.step hb1)
        refine hK.out _ _ (HS1.out.cells) (fun hHeld => ?_)
        clear hK K
        refine norm_ (a' := ?_) ?_ ?_
        rotate_left
        · show Act.put _ (some 18) _ = _
          simp only [Act.put, List.setIfInBounds_toArray, List.set_cons_zero, List.set_cons_succ, i64_w, i32_w]
          rfl
        refine HJ (v0, v1, wa.heap.size) _ ⟨HS1.out, hb1, by simpa using ho1, blk_grown HBG.out hg1 HNE.out, ?_⟩
        show some wa.heap.size ≠ v1.ownBlock
        rcases hat1 with e | ⟨b, e, hle⟩
        · rw [e]; exact HNE.out
        · rw [e]; intro e2; injection e2 with e2; have := blk_lt HBG.out; omega
    · skip
      refine value_ (w1 := ?_) (v := ?_) (by rfl) rfl ?_ ?_
      rotate_left 2
      · go_simp
        constructor
        · rfl
        · rfl
      have hup : Below w2.heap.size w2 (w2.alloc (.cells #[.int .i64 x.f0, .string x.f1, .int .i64 x.f2, .bool x.f3, .int .i64 x.f4.f0, .slice A5 x.f4.f1.length c5, .slice A6 x.f4.f2.length c6] 33)) := upB (Below.refl _ _)
      have HSc := Lib.hid (HW0.out.step hup)
      have HWC := Lib.hid hup
      have hbg := blk_new w2 (.cells #[.int .i64 x.f0, .string x.f1, .int .i64 x.f2, .bool x.f3, .int .i64 x.f4.f0, .slice A5 x.f4.f1.length c5, .slice A6 x.f4.f2.length c6] 33)
      have HBG := Lib.hid hbg
      clear hup hbg HW
      refine hK.out _ _ HSc.out.cells (fun hHeld => ?_)
      clear hK K
      refine norm_ (a' := ?_) ?_ ?_
      rotate_left
      · show Act.put _ (some 20) _ = _
        simp only [Act.put, List.setIfInBounds_toArray, List.set_cons_zero, List.set_cons_succ, i64_w, i32_w]
        rfl
      generalize w2.alloc _ = wc at HSc HWC HBG hHeld ⊢
      have HW := HWC
      refine one_ (i := 0) (N := some 15) #[true, true, true, false, true, true, false, false] rfl rfl (by kernel_rfl) (by decide) (fun K hK => ?_)
      refine Kd.R_lit_step (Kd.fixed k33 w) (w0 := w2) w2.heap.size 33 (by rfl) (N := 15) rfl (xs := []) (inner := []) (okp := fun _ => True) (ok := fun _ => True) (by first | (go_simp; done) | (go_simp; constructor <;> rfl)) (Reps.none _ _) (fun _ _ => trivial) trivial HW.out HW.out.size (by simp) ?_
      intro v0 wd ho0 hb0 hg0 hat0
      have HS0 := Lib.hid (HW0.out.step hb0)
      refine hK.out _ _ (HS0.out.cells) (fun hHeld => ?_)
      clear hK K
      refine norm_ (a' := ?_) ?_ ?_
      rotate_left
      · show Act.put _ (some 15) _ = _
        simp only [Act.put, List.setIfInBounds_toArray, List.set_cons_zero, List.set_cons_succ, i64_w, i32_w]
        rfl
      have hbg2 := blk_grown HBG.out hg0 (by simp)
      have hne : some w2.heap.size ≠ v0.ownBlock := by obtain ⟨b, e, hle⟩ := hat0; rw [e]; intro e2; injection e2 with e2; have := blk_lt HBG.out; omega
      have HBG2 := Lib.hid hbg2
      have HNE := Lib.hid hne
      have HWD := Lib.hid hb0
      have HOD := Lib.hid ho0
      clear hbg2 hne hb0 ho0 hg0 hat0
      refine one_ (i := 3) (N := some 18) #[true, true, true, true, true, true, false, false] rfl rfl (by kernel_rfl) (by decide) (fun K hK => ?_)
      refine Kd.R_append_rows_step (Kd.fixed k33 w) (w0 := w2) w2.heap.size (by rfl) (.tmp 15) (.tmp 17) 25 33 _ 96 rfl Tryd.underlying25 infoVote rfl (by show 0 < 7; decide) (by omega) v0 [] l2 A2 l2.length c2 (fun _ => True) (fun _ => False) rfl rfl HOD.out (C_fix (below_step HW0.out.ma.below HWD.out) HR2.out) (fun _ _ h => h) (fun _ hk => hk.elim) (fun _ _ => trivial) HWD.out HWD.out.size (by have := H96.out; simp; omega) ?_
      intro v1 we ho1 hb1 hg1 hat1
      have HS1 := Lib.hid (HW0.out.step hb1)
      refine hK.out _ _ (HS1.out.cells) (fun hHeld => ?_)
      clear hK K
      refine norm_ (a' := ?_) ?_ ?_
      rotate_left
      · show Act.put _ (some 18) _ = _
        simp only [Act.put, List.setIfInBounds_toArray, List.set_cons_zero, List.set_cons_succ, i64_w, i32_w]
        rfl
      refine HJ (v0, v1, w2.heap.size) _ ⟨HS1.out, hb1, by simpa using ho1, blk_grown HBG2.out hg1 HNE.out, ?_⟩
      show some w2.heap.size ≠ v1.ownBlock
      rcases hat1 with e | ⟨b, e, hle⟩
      · rw [e]; exact HNE.out
      · rw [e]; intro e2; injection e2 with e2; have := blk_lt HBG2.out; omega
  rintro ⟨v0, vA, g⟩ wj ⟨hsj, hwj, hoj, hgj, hnj⟩
  dsimp only at hoj hgj hnj ⊢
  have HSJ := Lib.hid hsj
  have HWJ := Lib.hid hwj
  have HOJ := Lib.hid hoj
  have HGJ := Lib.hid hgj
  have HNJ := Lib.hid hnj
  clear hsj hwj hoj hgj hnj
  refine norm_ (a' := ?_) ?_ ?_
  rotate_left
  · simp only [putAll, Act.put, List.setIfInBounds_toArray, List.set_cons_zero, List.set_cons_succ, i64_w, i32_w]
    rfl
  have hlit : (Kd.fixed k33 w).C wj (some ⟨g, 0, none⟩) 1 [x] := C_lit (d := Kd.fixed k33 w) [x] [[.int .i64 x.f0, .string x.f1, .int .i64 x.f2, .bool x.f3, .int .i64 x.f4.f0, .slice A5 x.f4.f1.length c5, .slice A6 x.f4.f2.length c6]] rfl (by simp) (by
    intro j hj
    have hj' : j < 1 := hj
    obtain rfl : j = 0 := by omega
    exact HVI.out.k) HGJ.out
  refine one_ (i := 6) (N := some 21) #[true, true, true, true, true, true, true, false] rfl rfl (by kernel_rfl) (by decide) (fun K hK => ?_)
  refine Kd.R_append_rows_step (Kd.fixed k33 w) (w0 := w2) w2.heap.size (by rfl) (.tmp 18) (.tmp 20) 25 33 _ 96 rfl Tryd.underlying25 infoVote rfl (by show 0 < 7; decide) (by omega) vA l2 [x] (some ⟨g, 0, none⟩) 1 1 (fun _ => True) (fun _ => False) rfl rfl HOJ.out hlit (fun _ _ h => h) (fun _ hk => hk.elim) (fun _ _ => trivial) HWJ.out HWJ.out.size (by have := H96.out; omega) ?_
  intro v2 wk ho2 hb2 hg2 hat2
  have HSK := Lib.hid (HW0.out.step hb2)
  refine hK.out _ _ (HSK.out.cells) (fun hHeld => ?_)
  clear hK K
  refine norm_ (a' := ?_) ?_ ?_
  rotate_left
  · show Act.put _ (some 21) _ = _
    simp only [Act.put, List.setIfInBounds_toArray, List.set_cons_zero, List.set_cons_succ, i64_w, i32_w]
    rfl
  refine pure_ (i := 7) (N := some 8) (v := ?_) (a' := ?_) #[true, true, true, true, true, true, true, true] rfl rfl (by kernel_rfl) (fun _ _ _ h => h) (Or.inl ⟨by rfl, ?_⟩) ?_ ?_
  rotate_left
  · intro w'
    go_simp
    with_reducible rfl
  rotate_left
  · simp only [Act.put, List.setIfInBounds_toArray, List.set_cons_zero, List.set_cons_succ, i64_w, i32_w]
    rfl
  refine done_ (by kernel_rfl) ?_
  obtain ⟨AL, cL, eL, gL, hCL⟩ := Kd.R_reads ho2
  have hCL2 := C_unfix (below_step HW0.out.ma.below hb2) hCL
  subst eL
  have HL := Lib.hid hCL2
  have HGL := Lib.hid gL
  clear ho2 hb2 hg2 hat2 hCL hCL2 gL HOJ HGJ HNJ HSJ HWJ HW0 HS hHeld
  obtain ⟨q0, q1, q2, q3, q4, q5, q6, q7, t0, t1, t2, t3, t4, t5, t6⟩ := HSK.out.cells
  go_wp2_with fail
  refine (few_snoc 5000 ch A1 c1 l1 q num den AL cL l2 x false _ (Kd.C_below HR1.out HSK.out.ma.below) HC1.out HL.out HGL.out HF.out).mono ?_
  rintro e w5 ⟨rfl, hb⟩
  replace HSK := Lib.hid (HSK.out.step hb)
  replace HL := Lib.hid (Kd.C_below HL.out hb)
  clear hb q0 q1 q2 q3 q4 q5 q6 q7 t0 t1 t2 t3 t4 t5 t6
  go_wp2
  go_ret
  exact ⟨rfl, HSK.out.ma.below⟩


set_option maxHeartbeats 16000000 in
set_option maxRecDepth 100000 in
theorem more_long (ch : Int) (A1 : Option Addr) (c1 : Nat) (l1 : List ByteArray) (q num den cch : Int) (bill : ByteArray) (A2 : Option Addr) (c2 : Nat) (l2 : List Vo.V) (x : Vo.V) (A5 : Option Addr) (c5 : Nat) (A6 : Option Addr) (c6 : Nat) (w : World) (hr1 : Kd.C Kd.string w A1 l1.length l1) (hc1 : l1.length ≤ c1) (hr2 : Kd.C k33 w A2 l2.length l2) (hc2 : l2.length ≤ c2) (hvi : VoteIs x A5 c5 A6 c6 w) (hT : Tabs w) (hl96 : l2.length * 96 ≤ 140737488351232) (hf : pandectlaw39_few.f 5000 ch l1 q num den (l2 ++ [x]) = some true) (hlen : 100 < bill.size) :
    Calls Tryd.prog 6 #[.agg #[.int .i64 ch, .slice A1 l1.length c1, .int .i64 q, .int .i64 num, .int .i64 den], .agg #[.int .i64 cch, .string bill, .slice A2 l2.length c2], .agg #[.int .i64 x.f0, .string x.f1, .int .i64 x.f2, .bool x.f3, .int .i64 x.f4.f0, .slice A5 x.f4.f1.length c5, .slice A6 x.f4.f2.length c6]] w fun e w' => e = .returned (.bool true) ∧ Below w.heap.size w w' := by
  have HS := Lib.hid (MoS.new w ch A1 l1.length c1 q num den cch bill A2 l2.length c2 x A5 c5 A6 c6)
  have HH := Lib.hid (fun W hT => pandectlaw39_head.calls 5000 true W hT (head_is 5000 (by decide)))
  have HT := Lib.hid hT
  have HR1 := Lib.hid hr1
  have HC1 := Lib.hid hc1
  have HR2 := Lib.hid hr2
  have HC2 := Lib.hid hc2
  have HVI := Lib.hid hvi
  have H96 := Lib.hid hl96
  clear hr1 hc1 hr2 hc2 hT hvi hl96
  have HF := Lib.hid hf
  clear hf
  have hlen' : (100 : Int) < (bill.size : Int) := by omega
  go_enter Tryd.func6, Tryd.ntmps6
  go_wp2_with fail
  refine (HH.out _ (tabs_below HT.out HS.out.ma.below)).mono ?_
  rintro e w1 ⟨rfl, hb⟩
  replace HS := Lib.hid (HS.out.step hb)
  clear hb
  go_wp2_with fail
  replace HS := Lib.hid (HS.out.step (Below.refl _ _).drew)
  refine start_ (n := 8) (S := fun w' => MoC w ch A1 l1.length c1 q num den cch bill A2 l2.length c2 x A5 c5 A6 c6 w') (ds := []) #[false, false, false, false, false, false, false, false] (by kernel_rfl) rfl rfl (HS.out.cells) (fun hHeld => ?_)
  generalize World.drew _ = w2 at HS hHeld ⊢
  have HW0 := HS
  refine pure_ (i := 1) (N := some 16) (v := ?_) (a' := ?_) #[false, true, false, false, false, false, false, false] rfl rfl (by kernel_rfl) (fun _ _ _ h => h) (Or.inl ⟨by rfl, ?_⟩) ?_ ?_
  rotate_left
  · intro w'
    go_simp
    with_reducible rfl
  rotate_left
  · simp only [Act.put, List.setIfInBounds_toArray, List.set_cons_zero, List.set_cons_succ, i64_w, i32_w]
    rfl
  refine take_ (i := 2) (N := some 17) (v := ?_) (a' := ?_) #[false, true, true, false, false, false, false, false] rfl rfl (by kernel_rfl) (fun _ _ _ h => h) (Or.inl ⟨by rfl, ?_⟩) hHeld ?_ ?_
  rotate_left
  · rintro w' ⟨s0, s1, s2, s3, s4, s5, s6, s7, s8, s9, s10, s11, s12, s13, s14⟩
    go_simp
    with_reducible rfl
  rotate_left
  · simp only [Act.put, List.setIfInBounds_toArray, List.set_cons_zero, List.set_cons_succ, i64_w, i32_w]
    rfl
  refine take_ (i := 4) (N := some 19) (v := ?_) (a' := ?_) #[false, true, true, false, true, false, false, false] rfl rfl (by kernel_rfl) (fun _ _ _ h => h) (Or.inl ⟨by rfl, ?_⟩) hHeld ?_ ?_
  rotate_left
  · rintro w' ⟨s0, s1, s2, s3, s4, s5, s6, s7, s8, s9, s10, s11, s12, s13, s14⟩
    go_simp
    with_reducible rfl
  rotate_left
  · simp only [Act.put, List.setIfInBounds_toArray, List.set_cons_zero, List.set_cons_succ, i64_w, i32_w]
    rfl
  refine join_ (σ := Value × Value × Nat) 2 #[true, true, true, true, true, true, false, false] (fun s => [(15, s.1), (18, s.2.1), (20, .slice (some ⟨s.2.2, 0, none⟩) 1 1)]) (fun s W => MoS w ch A1 l1.length c1 q num den cch bill A2 l2.length c2 x A5 c5 A6 c6 W ∧ Below w2.heap.size w2 W ∧ Kd.R (Kd.fixed k33 w) 33 W w2.heap.size (fun _ => True) s.2.1 l2 ∧ W.heap[s.2.2]? = some (.cells #[.int .i64 x.f0, .string x.f1, .int .i64 x.f2, .bool x.f3, .int .i64 x.f4.f0, .slice A5 x.f4.f1.length c5, .slice A6 x.f4.f2.length c6] 33 (0, 0)) ∧ some s.2.2 ≠ s.2.1.ownBlock) ?cont ?orders
  case orders =>
    intro HJ
    have HW : Hid (Below w2.heap.size w2 w2) := Lib.hid (Below.refl _ _)
    refine two_ (i := 0) (j := 5) (Ni := some 15) (Nj := some 20) #[true, true, true, false, true, false, false, false] #[false, true, true, false, true, true, false, false] rfl rfl rfl rfl (by kernel_rfl) (by decide) (by decide) (fun K hK => ?_) (fun K hK => ?_)
    · skip
      refine Kd.R_lit_step (Kd.fixed k33 w) (w0 := w2) w2.heap.size 33 (by rfl) (N := 15) rfl (xs := []) (inner := []) (okp := fun _ => True) (ok := fun _ => True) (by first | (go_simp; done) | (go_simp; constructor <;> rfl)) (Reps.none _ _) (fun _ _ => trivial) trivial HW.out HW.out.size (by simp) ?_
      intro v0 wa ho0 hb0 hg0 hat0
      have HS0 := Lib.hid (HW0.out.step hb0)
      refine hK.out _ _ (HS0.out.cells) (fun hHeld => ?_)
      clear hK K
      refine norm_ (a' := ?_) ?_ ?_
      rotate_left
      · show Act.put _ (some 15) _ = _
        simp only [Act.put, List.setIfInBounds_toArray, List.set_cons_zero, List.set_cons_succ, i64_w, i32_w]
        rfl
      have HWA := Lib.hid hb0
      have HOA := Lib.hid ho0
      clear hb0 ho0
      refine two_ (i := 3) (j := 5) (Ni := some 18) (Nj := some 20) #[true, true, true, true, true, false, false, false] #[true, true, true, false, true, true, false, false] rfl rfl rfl rfl (by kernel_rfl) (by decide) (by decide) (fun K hK => ?_) (fun K hK => ?_)
      · skip
        refine Kd.R_append_rows_step (Kd.fixed k33 w) (w0 := w2) w2.heap.size (by rfl) (.tmp 15) (.tmp 17) 25 33 _ 96 rfl Tryd.underlying25 infoVote rfl (by show 0 < 7; decide) (by omega) v0 [] l2 A2 l2.length c2 (fun _ => True) (fun _ => False) rfl rfl HOA.out (C_fix (below_step HW0.out.ma.below HWA.out) HR2.out) (fun _ _ h => h) (fun _ hk => hk.elim) (fun _ _ => trivial) HWA.out HWA.out.size (by have := H96.out; simp; omega) ?_
        intro v1 wb ho1 hb1 hg1 hat1
        have HS1 := Lib.hid (HW0.out.step hb1)
        refine hK.out _ _ (HS1.out.cells) (fun hHeld => ?_)
        clear hK K
        refine norm_ (a' := ?_) ?_ ?_
        rotate_left
        · show Act.put _ (some 18) _ = _
          simp only [Act.put, List.setIfInBounds_toArray, List.set_cons_zero, List.set_cons_succ, i64_w, i32_w]
          rfl
        refine one_ (i := 5) (N := some 20) #[true, true, true, true, true, true, false, false] rfl rfl (by kernel_rfl) (by decide) (fun K hK => ?_)
        refine value_ (w1 := ?_) (v := ?_) (by rfl) rfl ?_ ?_
        rotate_left 2
        · go_simp
          constructor
          · rfl
          · rfl
        have hup : Below wb.heap.size wb (wb.alloc (.cells #[.int .i64 x.f0, .string x.f1, .int .i64 x.f2, .bool x.f3, .int .i64 x.f4.f0, .slice A5 x.f4.f1.length c5, .slice A6 x.f4.f2.length c6] 33)) := upB (Below.refl _ _)
        refine hK.out _ _ (HS1.out.step hup).cells (fun hHeld => ?_)
        clear hK K
        refine norm_ (a' := ?_) ?_ ?_
        rotate_left
        · show Act.put _ (some 20) _ = _
          simp only [Act.put, List.setIfInBounds_toArray, List.set_cons_zero, List.set_cons_succ, i64_w, i32_w]
          rfl
        refine HJ (v0, v1, wb.heap.size) _ ⟨HS1.out.step hup, below_step hb1 hup, ?_, blk_new _ _, ?_⟩
        · exact Kd.R_below (by simpa using ho1) hup
        · show some wb.heap.size ≠ v1.ownBlock
          intro e; have := Kd.R_lt ho1 _ e.symm; omega
      · skip
        refine value_ (w1 := ?_) (v := ?_) (by rfl) rfl ?_ ?_
        rotate_left 2
        · go_simp
          constructor
          · rfl
          · rfl
        have hup : Below wa.heap.size wa (wa.alloc (.cells #[.int .i64 x.f0, .string x.f1, .int .i64 x.f2, .bool x.f3, .int .i64 x.f4.f0, .slice A5 x.f4.f1.length c5, .slice A6 x.f4.f2.length c6] 33)) := upB (Below.refl _ _)
        have HSc := Lib.hid (HS0.out.step hup)
        have HWC := Lib.hid (below_step HWA.out hup)
        have HOC := Lib.hid (Kd.R_below HOA.out hup)
        have hbg := blk_new wa (.cells #[.int .i64 x.f0, .string x.f1, .int .i64 x.f2, .bool x.f3, .int .i64 x.f4.f0, .slice A5 x.f4.f1.length c5, .slice A6 x.f4.f2.length c6] 33)
        have hne : some wa.heap.size ≠ v0.ownBlock := fun e => by have := Kd.R_lt HOA.out _ e.symm; omega
        have HBG := Lib.hid hbg
        have HNE := Lib.hid hne
        clear hup hbg hne
        refine hK.out _ _ HSc.out.cells (fun hHeld => ?_)
        clear hK K
        refine norm_ (a' := ?_) ?_ ?_
        rotate_left
        · show Act.put _ (some 20) _ = _
          simp only [Act.put, List.setIfInBounds_toArray, List.set_cons_zero, List.set_cons_succ, i64_w, i32_w]
          rfl
        generalize wa.alloc _ = wc at HSc HWC HOC HBG hHeld ⊢
        refine one_ (i := 3) (N := some 18) #[true, true, true, true, true, true, false, false] rfl rfl (by kernel_rfl) (by decide) (fun K hK => ?_)
        refine Kd.R_append_rows_step (Kd.fixed k33 w) (w0 := w2) w2.heap.size (by rfl) (.tmp 15) (.tmp 17) 25 33 _ 96 rfl Tryd.underlying25 infoVote rfl (by show 0 < 7; decide) (by omega) v0 [] l2 A2 l2.length c2 (fun _ => True) (fun _ => False) rfl rfl HOC.out (C_fix (below_step HW0.out.ma.below HWC.out) HR2.out) (fun _ _ h => h) (fun _ hk => hk.elim) (fun _ _ => trivial) HWC.out HWC.out.size (by have := H96.out; simp; omega) ?_
        intro v1 wd ho1 hb1 hg1 hat1
        have HS1 := Lib.hid (HW0.out.step hb1)
        refine hK.out _ _ (HS1.out.cells) (fun hHeld => ?_)
        clear hK K
        refine norm_ (a' := ?_) ?_ ?_
        rotate_left
        · show Act.put _ (some 18) _ = _
          simp only [Act.put, List.setIfInBounds_toArray, List.set_cons_zero, List.set_cons_succ, i64_w, i32_w]
          rfl
        refine HJ (v0, v1, wa.heap.size) _ ⟨HS1.out, hb1, by simpa using ho1, blk_grown HBG.out hg1 HNE.out, ?_⟩
        show some wa.heap.size ≠ v1.ownBlock
        rcases hat1 with e | ⟨b, e, hle⟩
        · rw [e]; exact HNE.out
        · rw [e]; intro e2; injection e2 with e2; have := blk_lt HBG.out; omega
    · skip
      refine value_ (w1 := ?_) (v := ?_) (by rfl) rfl ?_ ?_
      rotate_left 2
      · go_simp
        constructor
        · rfl
        · rfl
      have hup : Below w2.heap.size w2 (w2.alloc (.cells #[.int .i64 x.f0, .string x.f1, .int .i64 x.f2, .bool x.f3, .int .i64 x.f4.f0, .slice A5 x.f4.f1.length c5, .slice A6 x.f4.f2.length c6] 33)) := upB (Below.refl _ _)
      have HSc := Lib.hid (HW0.out.step hup)
      have HWC := Lib.hid hup
      have hbg := blk_new w2 (.cells #[.int .i64 x.f0, .string x.f1, .int .i64 x.f2, .bool x.f3, .int .i64 x.f4.f0, .slice A5 x.f4.f1.length c5, .slice A6 x.f4.f2.length c6] 33)
      have HBG := Lib.hid hbg
      clear hup hbg HW
      refine hK.out _ _ HSc.out.cells (fun hHeld => ?_)
      clear hK K
      refine norm_ (a' := ?_) ?_ ?_
      rotate_left
      · show Act.put _ (some 20) _ = _
        simp only [Act.put, List.setIfInBounds_toArray, List.set_cons_zero, List.set_cons_succ, i64_w, i32_w]
        rfl
      generalize w2.alloc _ = wc at HSc HWC HBG hHeld ⊢
      have HW := HWC
      refine one_ (i := 0) (N := some 15) #[true, true, true, false, true, true, false, false] rfl rfl (by kernel_rfl) (by decide) (fun K hK => ?_)
      refine Kd.R_lit_step (Kd.fixed k33 w) (w0 := w2) w2.heap.size 33 (by rfl) (N := 15) rfl (xs := []) (inner := []) (okp := fun _ => True) (ok := fun _ => True) (by first | (go_simp; done) | (go_simp; constructor <;> rfl)) (Reps.none _ _) (fun _ _ => trivial) trivial HW.out HW.out.size (by simp) ?_
      intro v0 wd ho0 hb0 hg0 hat0
      have HS0 := Lib.hid (HW0.out.step hb0)
      refine hK.out _ _ (HS0.out.cells) (fun hHeld => ?_)
      clear hK K
      refine norm_ (a' := ?_) ?_ ?_
      rotate_left
      · show Act.put _ (some 15) _ = _
        simp only [Act.put, List.setIfInBounds_toArray, List.set_cons_zero, List.set_cons_succ, i64_w, i32_w]
        rfl
      have hbg2 := blk_grown HBG.out hg0 (by simp)
      have hne : some w2.heap.size ≠ v0.ownBlock := by obtain ⟨b, e, hle⟩ := hat0; rw [e]; intro e2; injection e2 with e2; have := blk_lt HBG.out; omega
      have HBG2 := Lib.hid hbg2
      have HNE := Lib.hid hne
      have HWD := Lib.hid hb0
      have HOD := Lib.hid ho0
      clear hbg2 hne hb0 ho0 hg0 hat0
      refine one_ (i := 3) (N := some 18) #[true, true, true, true, true, true, false, false] rfl rfl (by kernel_rfl) (by decide) (fun K hK => ?_)
      refine Kd.R_append_rows_step (Kd.fixed k33 w) (w0 := w2) w2.heap.size (by rfl) (.tmp 15) (.tmp 17) 25 33 _ 96 rfl Tryd.underlying25 infoVote rfl (by show 0 < 7; decide) (by omega) v0 [] l2 A2 l2.length c2 (fun _ => True) (fun _ => False) rfl rfl HOD.out (C_fix (below_step HW0.out.ma.below HWD.out) HR2.out) (fun _ _ h => h) (fun _ hk => hk.elim) (fun _ _ => trivial) HWD.out HWD.out.size (by have := H96.out; simp; omega) ?_
      intro v1 we ho1 hb1 hg1 hat1
      have HS1 := Lib.hid (HW0.out.step hb1)
      refine hK.out _ _ (HS1.out.cells) (fun hHeld => ?_)
      clear hK K
      refine norm_ (a' := ?_) ?_ ?_
      rotate_left
      · show Act.put _ (some 18) _ = _
        simp only [Act.put, List.setIfInBounds_toArray, List.set_cons_zero, List.set_cons_succ, i64_w, i32_w]
        rfl
      refine HJ (v0, v1, w2.heap.size) _ ⟨HS1.out, hb1, by simpa using ho1, blk_grown HBG2.out hg1 HNE.out, ?_⟩
      show some w2.heap.size ≠ v1.ownBlock
      rcases hat1 with e | ⟨b, e, hle⟩
      · rw [e]; exact HNE.out
      · rw [e]; intro e2; injection e2 with e2; have := blk_lt HBG2.out; omega
  rintro ⟨v0, vA, g⟩ wj ⟨hsj, hwj, hoj, hgj, hnj⟩
  dsimp only at hoj hgj hnj ⊢
  have HSJ := Lib.hid hsj
  have HWJ := Lib.hid hwj
  have HOJ := Lib.hid hoj
  have HGJ := Lib.hid hgj
  have HNJ := Lib.hid hnj
  clear hsj hwj hoj hgj hnj
  refine norm_ (a' := ?_) ?_ ?_
  rotate_left
  · simp only [putAll, Act.put, List.setIfInBounds_toArray, List.set_cons_zero, List.set_cons_succ, i64_w, i32_w]
    rfl
  have hlit : (Kd.fixed k33 w).C wj (some ⟨g, 0, none⟩) 1 [x] := C_lit (d := Kd.fixed k33 w) [x] [[.int .i64 x.f0, .string x.f1, .int .i64 x.f2, .bool x.f3, .int .i64 x.f4.f0, .slice A5 x.f4.f1.length c5, .slice A6 x.f4.f2.length c6]] rfl (by simp) (by
    intro j hj
    have hj' : j < 1 := hj
    obtain rfl : j = 0 := by omega
    exact HVI.out.k) HGJ.out
  refine one_ (i := 6) (N := some 21) #[true, true, true, true, true, true, true, false] rfl rfl (by kernel_rfl) (by decide) (fun K hK => ?_)
  refine Kd.R_append_rows_step (Kd.fixed k33 w) (w0 := w2) w2.heap.size (by rfl) (.tmp 18) (.tmp 20) 25 33 _ 96 rfl Tryd.underlying25 infoVote rfl (by show 0 < 7; decide) (by omega) vA l2 [x] (some ⟨g, 0, none⟩) 1 1 (fun _ => True) (fun _ => False) rfl rfl HOJ.out hlit (fun _ _ h => h) (fun _ hk => hk.elim) (fun _ _ => trivial) HWJ.out HWJ.out.size (by have := H96.out; omega) ?_
  intro v2 wk ho2 hb2 hg2 hat2
  have HSK := Lib.hid (HW0.out.step hb2)
  refine hK.out _ _ (HSK.out.cells) (fun hHeld => ?_)
  clear hK K
  refine norm_ (a' := ?_) ?_ ?_
  rotate_left
  · show Act.put _ (some 21) _ = _
    simp only [Act.put, List.setIfInBounds_toArray, List.set_cons_zero, List.set_cons_succ, i64_w, i32_w]
    rfl
  refine pure_ (i := 7) (N := some 8) (v := ?_) (a' := ?_) #[true, true, true, true, true, true, true, true] rfl rfl (by kernel_rfl) (fun _ _ _ h => h) (Or.inl ⟨by rfl, ?_⟩) ?_ ?_
  rotate_left
  · intro w'
    go_simp
    with_reducible rfl
  rotate_left
  · simp only [Act.put, List.setIfInBounds_toArray, List.set_cons_zero, List.set_cons_succ, i64_w, i32_w]
    rfl
  refine done_ (by kernel_rfl) ?_
  obtain ⟨AL, cL, eL, gL, hCL⟩ := Kd.R_reads ho2
  have hCL2 := C_unfix (below_step HW0.out.ma.below hb2) hCL
  subst eL
  have HL := Lib.hid hCL2
  have HGL := Lib.hid gL
  clear ho2 hb2 hg2 hat2 hCL hCL2 gL HOJ HGJ HNJ HSJ HWJ HW0 HS hHeld
  obtain ⟨q0, q1, q2, q3, q4, q5, q6, q7, t0, t1, t2, t3, t4, t5, t6⟩ := HSK.out.cells
  go_wp2_with fail
  refine (few_snoc 5000 ch A1 c1 l1 q num den AL cL l2 x true _ (Kd.C_below HR1.out HSK.out.ma.below) HC1.out HL.out HGL.out HF.out).mono ?_
  rintro e w5 ⟨rfl, hb⟩
  replace HSK := Lib.hid (HSK.out.step hb)
  replace HL := Lib.hid (Kd.C_below HL.out hb)
  clear hb q0 q1 q2 q3 q4 q5 q6 q7 t0 t1 t2 t3 t4 t5 t6
  obtain ⟨q0, q1, q2, q3, q4, q5, q6, q7, t0, t1, t2, t3, t4, t5, t6⟩ := HSK.out.cells
  go_wp2
  go_ret
  exact ⟨rfl, HSK.out.ma.below⟩


set_option maxHeartbeats 16000000 in
set_option maxRecDepth 100000 in
theorem more_not (ch : Int) (A1 : Option Addr) (c1 : Nat) (l1 : List ByteArray) (q num den cch : Int) (bill : ByteArray) (A2 : Option Addr) (c2 : Nat) (l2 : List Vo.V) (x : Vo.V) (A5 : Option Addr) (c5 : Nat) (A6 : Option Addr) (c6 : Nat) (w : World) (hr1 : Kd.C Kd.string w A1 l1.length l1) (hc1 : l1.length ≤ c1) (hr2 : Kd.C k33 w A2 l2.length l2) (hc2 : l2.length ≤ c2) (hvi : VoteIs x A5 c5 A6 c6 w) (hT : Tabs w) (hl96 : l2.length * 96 ≤ 140737488351232) (hf : pandectlaw39_few.f 5000 ch l1 q num den (l2 ++ [x]) = some true) (hlen : bill.size ≤ 100) (Y N : Int) (B : List Int) (was : Int) (hcn : vote_Count.f 5000 ch l1 q num den bill (l2 ++ [x]) = some (Y, N, B)) (hwas : vote_Carried.f 5000 ch l1 q num den cch bill l2 = some was) (hBl : B.length ≤ 100) (hBn : B[B.length - 1]? = some (l2.length : Int)) :
    Calls Tryd.prog 6 #[.agg #[.int .i64 ch, .slice A1 l1.length c1, .int .i64 q, .int .i64 num, .int .i64 den], .agg #[.int .i64 cch, .string bill, .slice A2 l2.length c2], .agg #[.int .i64 x.f0, .string x.f1, .int .i64 x.f2, .bool x.f3, .int .i64 x.f4.f0, .slice A5 x.f4.f1.length c5, .slice A6 x.f4.f2.length c6]] w fun e w' => e = .returned (.bool true) ∧ Below w.heap.size w w' := by
  have HS := Lib.hid (MoS.new w ch A1 l1.length c1 q num den cch bill A2 l2.length c2 x A5 c5 A6 c6)
  have HH := Lib.hid (fun W hT => pandectlaw39_head.calls 5000 true W hT (head_is 5000 (by decide)))
  have HT := Lib.hid hT
  have HR1 := Lib.hid hr1
  have HC1 := Lib.hid hc1
  have HR2 := Lib.hid hr2
  have HC2 := Lib.hid hc2
  have HVI := Lib.hid hvi
  have H96 := Lib.hid hl96
  clear hr1 hc1 hr2 hc2 hT hvi hl96
  have HF := Lib.hid hf
  have HCN := Lib.hid hcn
  have HWAS := Lib.hid hwas
  clear hf hcn hwas
  have hlen' : (bill.size : Int) ≤ 100 := by omega
  have HLB := Lib.hid hBn
  clear hBn
  go_enter Tryd.func6, Tryd.ntmps6
  go_wp2_with fail
  refine (HH.out _ (tabs_below HT.out HS.out.ma.below)).mono ?_
  rintro e w1 ⟨rfl, hb⟩
  replace HS := Lib.hid (HS.out.step hb)
  clear hb
  go_wp2_with fail
  replace HS := Lib.hid (HS.out.step (Below.refl _ _).drew)
  refine start_ (n := 8) (S := fun w' => MoC w ch A1 l1.length c1 q num den cch bill A2 l2.length c2 x A5 c5 A6 c6 w') (ds := []) #[false, false, false, false, false, false, false, false] (by kernel_rfl) rfl rfl (HS.out.cells) (fun hHeld => ?_)
  generalize World.drew _ = w2 at HS hHeld ⊢
  have HW0 := HS
  refine pure_ (i := 1) (N := some 16) (v := ?_) (a' := ?_) #[false, true, false, false, false, false, false, false] rfl rfl (by kernel_rfl) (fun _ _ _ h => h) (Or.inl ⟨by rfl, ?_⟩) ?_ ?_
  rotate_left
  · intro w'
    go_simp
    with_reducible rfl
  rotate_left
  · simp only [Act.put, List.setIfInBounds_toArray, List.set_cons_zero, List.set_cons_succ, i64_w, i32_w]
    rfl
  refine take_ (i := 2) (N := some 17) (v := ?_) (a' := ?_) #[false, true, true, false, false, false, false, false] rfl rfl (by kernel_rfl) (fun _ _ _ h => h) (Or.inl ⟨by rfl, ?_⟩) hHeld ?_ ?_
  rotate_left
  · rintro w' ⟨s0, s1, s2, s3, s4, s5, s6, s7, s8, s9, s10, s11, s12, s13, s14⟩
    go_simp
    with_reducible rfl
  rotate_left
  · simp only [Act.put, List.setIfInBounds_toArray, List.set_cons_zero, List.set_cons_succ, i64_w, i32_w]
    rfl
  refine take_ (i := 4) (N := some 19) (v := ?_) (a' := ?_) #[false, true, true, false, true, false, false, false] rfl rfl (by kernel_rfl) (fun _ _ _ h => h) (Or.inl ⟨by rfl, ?_⟩) hHeld ?_ ?_
  rotate_left
  · rintro w' ⟨s0, s1, s2, s3, s4, s5, s6, s7, s8, s9, s10, s11, s12, s13, s14⟩
    go_simp
    with_reducible rfl
  rotate_left
  · simp only [Act.put, List.setIfInBounds_toArray, List.set_cons_zero, List.set_cons_succ, i64_w, i32_w]
    rfl
  refine join_ (σ := Value × Value × Nat) 2 #[true, true, true, true, true, true, false, false] (fun s => [(15, s.1), (18, s.2.1), (20, .slice (some ⟨s.2.2, 0, none⟩) 1 1)]) (fun s W => MoS w ch A1 l1.length c1 q num den cch bill A2 l2.length c2 x A5 c5 A6 c6 W ∧ Below w2.heap.size w2 W ∧ Kd.R (Kd.fixed k33 w) 33 W w2.heap.size (fun _ => True) s.2.1 l2 ∧ W.heap[s.2.2]? = some (.cells #[.int .i64 x.f0, .string x.f1, .int .i64 x.f2, .bool x.f3, .int .i64 x.f4.f0, .slice A5 x.f4.f1.length c5, .slice A6 x.f4.f2.length c6] 33 (0, 0)) ∧ some s.2.2 ≠ s.2.1.ownBlock) ?cont ?orders
  case orders =>
    intro HJ
    have HW : Hid (Below w2.heap.size w2 w2) := Lib.hid (Below.refl _ _)
    refine two_ (i := 0) (j := 5) (Ni := some 15) (Nj := some 20) #[true, true, true, false, true, false, false, false] #[false, true, true, false, true, true, false, false] rfl rfl rfl rfl (by kernel_rfl) (by decide) (by decide) (fun K hK => ?_) (fun K hK => ?_)
    · skip
      refine Kd.R_lit_step (Kd.fixed k33 w) (w0 := w2) w2.heap.size 33 (by rfl) (N := 15) rfl (xs := []) (inner := []) (okp := fun _ => True) (ok := fun _ => True) (by first | (go_simp; done) | (go_simp; constructor <;> rfl)) (Reps.none _ _) (fun _ _ => trivial) trivial HW.out HW.out.size (by simp) ?_
      intro v0 wa ho0 hb0 hg0 hat0
      have HS0 := Lib.hid (HW0.out.step hb0)
      refine hK.out _ _ (HS0.out.cells) (fun hHeld => ?_)
      clear hK K
      refine norm_ (a' := ?_) ?_ ?_
      rotate_left
      · show Act.put _ (some 15) _ = _
        simp only [Act.put, List.setIfInBounds_toArray, List.set_cons_zero, List.set_cons_succ, i64_w, i32_w]
        rfl
      have HWA := Lib.hid hb0
      have HOA := Lib.hid ho0
      clear hb0 ho0
      refine two_ (i := 3) (j := 5) (Ni := some 18) (Nj := some 20) #[true, true, true, true, true, false, false, false] #[true, true, true, false, true, true, false, false] rfl rfl rfl rfl (by kernel_rfl) (by decide) (by decide) (fun K hK => ?_) (fun K hK => ?_)
      · skip
        refine Kd.R_append_rows_step (Kd.fixed k33 w) (w0 := w2) w2.heap.size (by rfl) (.tmp 15) (.tmp 17) 25 33 _ 96 rfl Tryd.underlying25 infoVote rfl (by show 0 < 7; decide) (by omega) v0 [] l2 A2 l2.length c2 (fun _ => True) (fun _ => False) rfl rfl HOA.out (C_fix (below_step HW0.out.ma.below HWA.out) HR2.out) (fun _ _ h => h) (fun _ hk => hk.elim) (fun _ _ => trivial) HWA.out HWA.out.size (by have := H96.out; simp; omega) ?_
        intro v1 wb ho1 hb1 hg1 hat1
        have HS1 := Lib.hid (HW0.out.step hb1)
        refine hK.out _ _ (HS1.out.cells) (fun hHeld => ?_)
        clear hK K
        refine norm_ (a' := ?_) ?_ ?_
        rotate_left
        · show Act.put _ (some 18) _ = _
          simp only [Act.put, List.setIfInBounds_toArray, List.set_cons_zero, List.set_cons_succ, i64_w, i32_w]
          rfl
        refine one_ (i := 5) (N := some 20) #[true, true, true, true, true, true, false, false] rfl rfl (by kernel_rfl) (by decide) (fun K hK => ?_)
        refine value_ (w1 := ?_) (v := ?_) (by rfl) rfl ?_ ?_
        rotate_left 2
        · go_simp
          constructor
          · rfl
          · rfl
        have hup : Below wb.heap.size wb (wb.alloc (.cells #[.int .i64 x.f0, .string x.f1, .int .i64 x.f2, .bool x.f3, .int .i64 x.f4.f0, .slice A5 x.f4.f1.length c5, .slice A6 x.f4.f2.length c6] 33)) := upB (Below.refl _ _)
        refine hK.out _ _ (HS1.out.step hup).cells (fun hHeld => ?_)
        clear hK K
        refine norm_ (a' := ?_) ?_ ?_
        rotate_left
        · show Act.put _ (some 20) _ = _
          simp only [Act.put, List.setIfInBounds_toArray, List.set_cons_zero, List.set_cons_succ, i64_w, i32_w]
          rfl
        refine HJ (v0, v1, wb.heap.size) _ ⟨HS1.out.step hup, below_step hb1 hup, ?_, blk_new _ _, ?_⟩
        · exact Kd.R_below (by simpa using ho1) hup
        · show some wb.heap.size ≠ v1.ownBlock
          intro e; have := Kd.R_lt ho1 _ e.symm; omega
      · skip
        refine value_ (w1 := ?_) (v := ?_) (by rfl) rfl ?_ ?_
        rotate_left 2
        · go_simp
          constructor
          · rfl
          · rfl
        have hup : Below wa.heap.size wa (wa.alloc (.cells #[.int .i64 x.f0, .string x.f1, .int .i64 x.f2, .bool x.f3, .int .i64 x.f4.f0, .slice A5 x.f4.f1.length c5, .slice A6 x.f4.f2.length c6] 33)) := upB (Below.refl _ _)
        have HSc := Lib.hid (HS0.out.step hup)
        have HWC := Lib.hid (below_step HWA.out hup)
        have HOC := Lib.hid (Kd.R_below HOA.out hup)
        have hbg := blk_new wa (.cells #[.int .i64 x.f0, .string x.f1, .int .i64 x.f2, .bool x.f3, .int .i64 x.f4.f0, .slice A5 x.f4.f1.length c5, .slice A6 x.f4.f2.length c6] 33)
        have hne : some wa.heap.size ≠ v0.ownBlock := fun e => by have := Kd.R_lt HOA.out _ e.symm; omega
        have HBG := Lib.hid hbg
        have HNE := Lib.hid hne
        clear hup hbg hne
        refine hK.out _ _ HSc.out.cells (fun hHeld => ?_)
        clear hK K
        refine norm_ (a' := ?_) ?_ ?_
        rotate_left
        · show Act.put _ (some 20) _ = _
          simp only [Act.put, List.setIfInBounds_toArray, List.set_cons_zero, List.set_cons_succ, i64_w, i32_w]
          rfl
        generalize wa.alloc _ = wc at HSc HWC HOC HBG hHeld ⊢
        refine one_ (i := 3) (N := some 18) #[true, true, true, true, true, true, false, false] rfl rfl (by kernel_rfl) (by decide) (fun K hK => ?_)
        refine Kd.R_append_rows_step (Kd.fixed k33 w) (w0 := w2) w2.heap.size (by rfl) (.tmp 15) (.tmp 17) 25 33 _ 96 rfl Tryd.underlying25 infoVote rfl (by show 0 < 7; decide) (by omega) v0 [] l2 A2 l2.length c2 (fun _ => True) (fun _ => False) rfl rfl HOC.out (C_fix (below_step HW0.out.ma.below HWC.out) HR2.out) (fun _ _ h => h) (fun _ hk => hk.elim) (fun _ _ => trivial) HWC.out HWC.out.size (by have := H96.out; simp; omega) ?_
        intro v1 wd ho1 hb1 hg1 hat1
        have HS1 := Lib.hid (HW0.out.step hb1)
        refine hK.out _ _ (HS1.out.cells) (fun hHeld => ?_)
        clear hK K
        refine norm_ (a' := ?_) ?_ ?_
        rotate_left
        · show Act.put _ (some 18) _ = _
          simp only [Act.put, List.setIfInBounds_toArray, List.set_cons_zero, List.set_cons_succ, i64_w, i32_w]
          rfl
        refine HJ (v0, v1, wa.heap.size) _ ⟨HS1.out, hb1, by simpa using ho1, blk_grown HBG.out hg1 HNE.out, ?_⟩
        show some wa.heap.size ≠ v1.ownBlock
        rcases hat1 with e | ⟨b, e, hle⟩
        · rw [e]; exact HNE.out
        · rw [e]; intro e2; injection e2 with e2; have := blk_lt HBG.out; omega
    · skip
      refine value_ (w1 := ?_) (v := ?_) (by rfl) rfl ?_ ?_
      rotate_left 2
      · go_simp
        constructor
        · rfl
        · rfl
      have hup : Below w2.heap.size w2 (w2.alloc (.cells #[.int .i64 x.f0, .string x.f1, .int .i64 x.f2, .bool x.f3, .int .i64 x.f4.f0, .slice A5 x.f4.f1.length c5, .slice A6 x.f4.f2.length c6] 33)) := upB (Below.refl _ _)
      have HSc := Lib.hid (HW0.out.step hup)
      have HWC := Lib.hid hup
      have hbg := blk_new w2 (.cells #[.int .i64 x.f0, .string x.f1, .int .i64 x.f2, .bool x.f3, .int .i64 x.f4.f0, .slice A5 x.f4.f1.length c5, .slice A6 x.f4.f2.length c6] 33)
      have HBG := Lib.hid hbg
      clear hup hbg HW
      refine hK.out _ _ HSc.out.cells (fun hHeld => ?_)
      clear hK K
      refine norm_ (a' := ?_) ?_ ?_
      rotate_left
      · show Act.put _ (some 20) _ = _
        simp only [Act.put, List.setIfInBounds_toArray, List.set_cons_zero, List.set_cons_succ, i64_w, i32_w]
        rfl
      generalize w2.alloc _ = wc at HSc HWC HBG hHeld ⊢
      have HW := HWC
      refine one_ (i := 0) (N := some 15) #[true, true, true, false, true, true, false, false] rfl rfl (by kernel_rfl) (by decide) (fun K hK => ?_)
      refine Kd.R_lit_step (Kd.fixed k33 w) (w0 := w2) w2.heap.size 33 (by rfl) (N := 15) rfl (xs := []) (inner := []) (okp := fun _ => True) (ok := fun _ => True) (by first | (go_simp; done) | (go_simp; constructor <;> rfl)) (Reps.none _ _) (fun _ _ => trivial) trivial HW.out HW.out.size (by simp) ?_
      intro v0 wd ho0 hb0 hg0 hat0
      have HS0 := Lib.hid (HW0.out.step hb0)
      refine hK.out _ _ (HS0.out.cells) (fun hHeld => ?_)
      clear hK K
      refine norm_ (a' := ?_) ?_ ?_
      rotate_left
      · show Act.put _ (some 15) _ = _
        simp only [Act.put, List.setIfInBounds_toArray, List.set_cons_zero, List.set_cons_succ, i64_w, i32_w]
        rfl
      have hbg2 := blk_grown HBG.out hg0 (by simp)
      have hne : some w2.heap.size ≠ v0.ownBlock := by obtain ⟨b, e, hle⟩ := hat0; rw [e]; intro e2; injection e2 with e2; have := blk_lt HBG.out; omega
      have HBG2 := Lib.hid hbg2
      have HNE := Lib.hid hne
      have HWD := Lib.hid hb0
      have HOD := Lib.hid ho0
      clear hbg2 hne hb0 ho0 hg0 hat0
      refine one_ (i := 3) (N := some 18) #[true, true, true, true, true, true, false, false] rfl rfl (by kernel_rfl) (by decide) (fun K hK => ?_)
      refine Kd.R_append_rows_step (Kd.fixed k33 w) (w0 := w2) w2.heap.size (by rfl) (.tmp 15) (.tmp 17) 25 33 _ 96 rfl Tryd.underlying25 infoVote rfl (by show 0 < 7; decide) (by omega) v0 [] l2 A2 l2.length c2 (fun _ => True) (fun _ => False) rfl rfl HOD.out (C_fix (below_step HW0.out.ma.below HWD.out) HR2.out) (fun _ _ h => h) (fun _ hk => hk.elim) (fun _ _ => trivial) HWD.out HWD.out.size (by have := H96.out; simp; omega) ?_
      intro v1 we ho1 hb1 hg1 hat1
      have HS1 := Lib.hid (HW0.out.step hb1)
      refine hK.out _ _ (HS1.out.cells) (fun hHeld => ?_)
      clear hK K
      refine norm_ (a' := ?_) ?_ ?_
      rotate_left
      · show Act.put _ (some 18) _ = _
        simp only [Act.put, List.setIfInBounds_toArray, List.set_cons_zero, List.set_cons_succ, i64_w, i32_w]
        rfl
      refine HJ (v0, v1, w2.heap.size) _ ⟨HS1.out, hb1, by simpa using ho1, blk_grown HBG2.out hg1 HNE.out, ?_⟩
      show some w2.heap.size ≠ v1.ownBlock
      rcases hat1 with e | ⟨b, e, hle⟩
      · rw [e]; exact HNE.out
      · rw [e]; intro e2; injection e2 with e2; have := blk_lt HBG2.out; omega
  rintro ⟨v0, vA, g⟩ wj ⟨hsj, hwj, hoj, hgj, hnj⟩
  dsimp only at hoj hgj hnj ⊢
  have HSJ := Lib.hid hsj
  have HWJ := Lib.hid hwj
  have HOJ := Lib.hid hoj
  have HGJ := Lib.hid hgj
  have HNJ := Lib.hid hnj
  clear hsj hwj hoj hgj hnj
  refine norm_ (a' := ?_) ?_ ?_
  rotate_left
  · simp only [putAll, Act.put, List.setIfInBounds_toArray, List.set_cons_zero, List.set_cons_succ, i64_w, i32_w]
    rfl
  have hlit : (Kd.fixed k33 w).C wj (some ⟨g, 0, none⟩) 1 [x] := C_lit (d := Kd.fixed k33 w) [x] [[.int .i64 x.f0, .string x.f1, .int .i64 x.f2, .bool x.f3, .int .i64 x.f4.f0, .slice A5 x.f4.f1.length c5, .slice A6 x.f4.f2.length c6]] rfl (by simp) (by
    intro j hj
    have hj' : j < 1 := hj
    obtain rfl : j = 0 := by omega
    exact HVI.out.k) HGJ.out
  refine one_ (i := 6) (N := some 21) #[true, true, true, true, true, true, true, false] rfl rfl (by kernel_rfl) (by decide) (fun K hK => ?_)
  refine Kd.R_append_rows_step (Kd.fixed k33 w) (w0 := w2) w2.heap.size (by rfl) (.tmp 18) (.tmp 20) 25 33 _ 96 rfl Tryd.underlying25 infoVote rfl (by show 0 < 7; decide) (by omega) vA l2 [x] (some ⟨g, 0, none⟩) 1 1 (fun _ => True) (fun _ => False) rfl rfl HOJ.out hlit (fun _ _ h => h) (fun _ hk => hk.elim) (fun _ _ => trivial) HWJ.out HWJ.out.size (by have := H96.out; omega) ?_
  intro v2 wk ho2 hb2 hg2 hat2
  have HSK := Lib.hid (HW0.out.step hb2)
  refine hK.out _ _ (HSK.out.cells) (fun hHeld => ?_)
  clear hK K
  refine norm_ (a' := ?_) ?_ ?_
  rotate_left
  · show Act.put _ (some 21) _ = _
    simp only [Act.put, List.setIfInBounds_toArray, List.set_cons_zero, List.set_cons_succ, i64_w, i32_w]
    rfl
  refine pure_ (i := 7) (N := some 8) (v := ?_) (a' := ?_) #[true, true, true, true, true, true, true, true] rfl rfl (by kernel_rfl) (fun _ _ _ h => h) (Or.inl ⟨by rfl, ?_⟩) ?_ ?_
  rotate_left
  · intro w'
    go_simp
    with_reducible rfl
  rotate_left
  · simp only [Act.put, List.setIfInBounds_toArray, List.set_cons_zero, List.set_cons_succ, i64_w, i32_w]
    rfl
  refine done_ (by kernel_rfl) ?_
  obtain ⟨AL, cL, eL, gL, hCL⟩ := Kd.R_reads ho2
  have hCL2 := C_unfix (below_step HW0.out.ma.below hb2) hCL
  subst eL
  have HL := Lib.hid hCL2
  have HGL := Lib.hid gL
  clear ho2 hb2 hg2 hat2 hCL hCL2 gL HOJ HGJ HNJ HSJ HWJ HW0 HS hHeld
  obtain ⟨q0, q1, q2, q3, q4, q5, q6, q7, t0, t1, t2, t3, t4, t5, t6⟩ := HSK.out.cells
  go_wp2_with fail
  refine (few_snoc 5000 ch A1 c1 l1 q num den AL cL l2 x true _ (Kd.C_below HR1.out HSK.out.ma.below) HC1.out HL.out HGL.out HF.out).mono ?_
  rintro e w5 ⟨rfl, hb⟩
  replace HSK := Lib.hid (HSK.out.step hb)
  replace HL := Lib.hid (Kd.C_below HL.out hb)
  clear hb q0 q1 q2 q3 q4 q5 q6 q7 t0 t1 t2 t3 t4 t5 t6
  obtain ⟨q0, q1, q2, q3, q4, q5, q6, q7, t0, t1, t2, t3, t4, t5, t6⟩ := HSK.out.cells
  go_wp2_with fail
  refine (vote_Carried.calls 5000 ch A1 c1 l1 q num den cch bill A2 c2 l2 was _ (Kd.C_below HR1.out HSK.out.ma.below) HC1.out (Kd.C_below HR2.out HSK.out.ma.below) HC2.out (tabs_below HT.out HSK.out.ma.below) HWAS.out).mono ?_
  rintro e w6 ⟨rfl, hb⟩
  replace HSK := Lib.hid (HSK.out.step hb)
  replace HL := Lib.hid (Kd.C_below HL.out hb)
  clear hb q0 q1 q2 q3 q4 q5 q6 q7 t0 t1 t2 t3 t4 t5 t6
  obtain ⟨q0, q1, q2, q3, q4, q5, q6, q7, t0, t1, t2, t3, t4, t5, t6⟩ := HSK.out.cells
  go_wp2_with fail
  refine (count_snocC 5000 ch A1 c1 l1 q num den bill AL cL l2 x Y N B _ (Kd.C_below HR1.out HSK.out.ma.below) HC1.out HL.out HGL.out (tabs_below HT.out HSK.out.ma.below) HCN.out).mono ?_
  rintro e w7 ⟨vb, rfl, hrb, hb⟩
  replace HSK := Lib.hid (HSK.out.step hb)
  replace HL := Lib.hid (Kd.C_below HL.out hb)
  obtain ⟨AB, cB, rfl, gB, hCB⟩ := Kd.R_reads hrb
  have HCB := Lib.hid hCB
  clear hb hrb hCB q0 q1 q2 q3 q4 q5 q6 q7 t0 t1 t2 t3 t4 t5 t6
  obtain ⟨q0, q1, q2, q3, q4, q5, q6, q7, t0, t1, t2, t3, t4, t5, t6⟩ := HSK.out.cells
  obtain ⟨adB, eB, hB⟩ := int_at HCB.out (Below.refl _ _) (B.length - 1) _ HLB.out
  subst eB
  have hBp : 0 < B.length := by have := (List.getElem?_eq_some_iff.1 HLB.out).1; omega
  have u1 : IntKind.i64.wrap ((B.length : Int) - 1) = (B.length : Int) - 1 := IntWalk.i64_in _ (by omega)
  have u2 : 0 ≤ (B.length : Int) - 1 := by omega
  have u3 : 1 ≤ (B.length : Int) := by omega
  have u4 : ((B.length : Int) - 1).toNat = B.length - 1 := by omega
  have u5 : decide ((B.length : Int) > 0) = true := decide_eq_true (by omega)
  have u6 : decide (0 < (B.length : Int)) = true := decide_eq_true (by omega)
  go_wp2_with fail
  go_quiet (fail)
  go_wp2
  go_ret
  exact ⟨rfl, pw_below_drewN HSK.out.ma.below _⟩


set_option maxHeartbeats 16000000 in
set_option maxRecDepth 100000 in
theorem more_other (ch : Int) (A1 : Option Addr) (c1 : Nat) (l1 : List ByteArray) (q num den cch : Int) (bill : ByteArray) (A2 : Option Addr) (c2 : Nat) (l2 : List Vo.V) (x : Vo.V) (A5 : Option Addr) (c5 : Nat) (A6 : Option Addr) (c6 : Nat) (w : World) (hr1 : Kd.C Kd.string w A1 l1.length l1) (hc1 : l1.length ≤ c1) (hr2 : Kd.C k33 w A2 l2.length l2) (hc2 : l2.length ≤ c2) (hvi : VoteIs x A5 c5 A6 c6 w) (hT : Tabs w) (hl96 : l2.length * 96 ≤ 140737488351232) (hf : pandectlaw39_few.f 5000 ch l1 q num den (l2 ++ [x]) = some true) (hlen : bill.size ≤ 100) (Y N : Int) (B : List Int) (was : Int) (hcn : vote_Count.f 5000 ch l1 q num den bill (l2 ++ [x]) = some (Y, N, B)) (hwas : vote_Carried.f 5000 ch l1 q num den cch bill l2 = some was) (hBl : B.length ≤ 100) (now : Int) (hnow : vote_Carried.f 5000 ch l1 q num den cch bill (l2 ++ [x]) = some now) (hy1 : was = 0 → x.f3 = true → now = 0) (hy2 : was = 12 → x.f3 = false → now = 12) (lastb : Int) (hBn : B[B.length - 1]? = some lastb) (hln : lastb ≠ (l2.length : Int)) :
    Calls Tryd.prog 6 #[.agg #[.int .i64 ch, .slice A1 l1.length c1, .int .i64 q, .int .i64 num, .int .i64 den], .agg #[.int .i64 cch, .string bill, .slice A2 l2.length c2], .agg #[.int .i64 x.f0, .string x.f1, .int .i64 x.f2, .bool x.f3, .int .i64 x.f4.f0, .slice A5 x.f4.f1.length c5, .slice A6 x.f4.f2.length c6]] w fun e w' => e = .returned (.bool true) ∧ Below w.heap.size w w' := by
  have HS := Lib.hid (MoS.new w ch A1 l1.length c1 q num den cch bill A2 l2.length c2 x A5 c5 A6 c6)
  have HH := Lib.hid (fun W hT => pandectlaw39_head.calls 5000 true W hT (head_is 5000 (by decide)))
  have HT := Lib.hid hT
  have HR1 := Lib.hid hr1
  have HC1 := Lib.hid hc1
  have HR2 := Lib.hid hr2
  have HC2 := Lib.hid hc2
  have HVI := Lib.hid hvi
  have H96 := Lib.hid hl96
  clear hr1 hc1 hr2 hc2 hT hvi hl96
  have HF := Lib.hid hf
  have HCN := Lib.hid hcn
  have HWAS := Lib.hid hwas
  clear hf hcn hwas
  have hlen' : (bill.size : Int) ≤ 100 := by omega
  have HNOW := Lib.hid hnow
  have HY1 := Lib.hid hy1
  have HY2 := Lib.hid hy2
  clear hnow hy1 hy2
  have HLB := Lib.hid hBn
  have HLN := Lib.hid hln
  clear hBn hln
  go_enter Tryd.func6, Tryd.ntmps6
  go_wp2_with fail
  refine (HH.out _ (tabs_below HT.out HS.out.ma.below)).mono ?_
  rintro e w1 ⟨rfl, hb⟩
  replace HS := Lib.hid (HS.out.step hb)
  clear hb
  go_wp2_with fail
  replace HS := Lib.hid (HS.out.step (Below.refl _ _).drew)
  refine start_ (n := 8) (S := fun w' => MoC w ch A1 l1.length c1 q num den cch bill A2 l2.length c2 x A5 c5 A6 c6 w') (ds := []) #[false, false, false, false, false, false, false, false] (by kernel_rfl) rfl rfl (HS.out.cells) (fun hHeld => ?_)
  generalize World.drew _ = w2 at HS hHeld ⊢
  have HW0 := HS
  refine pure_ (i := 1) (N := some 16) (v := ?_) (a' := ?_) #[false, true, false, false, false, false, false, false] rfl rfl (by kernel_rfl) (fun _ _ _ h => h) (Or.inl ⟨by rfl, ?_⟩) ?_ ?_
  rotate_left
  · intro w'
    go_simp
    with_reducible rfl
  rotate_left
  · simp only [Act.put, List.setIfInBounds_toArray, List.set_cons_zero, List.set_cons_succ, i64_w, i32_w]
    rfl
  refine take_ (i := 2) (N := some 17) (v := ?_) (a' := ?_) #[false, true, true, false, false, false, false, false] rfl rfl (by kernel_rfl) (fun _ _ _ h => h) (Or.inl ⟨by rfl, ?_⟩) hHeld ?_ ?_
  rotate_left
  · rintro w' ⟨s0, s1, s2, s3, s4, s5, s6, s7, s8, s9, s10, s11, s12, s13, s14⟩
    go_simp
    with_reducible rfl
  rotate_left
  · simp only [Act.put, List.setIfInBounds_toArray, List.set_cons_zero, List.set_cons_succ, i64_w, i32_w]
    rfl
  refine take_ (i := 4) (N := some 19) (v := ?_) (a' := ?_) #[false, true, true, false, true, false, false, false] rfl rfl (by kernel_rfl) (fun _ _ _ h => h) (Or.inl ⟨by rfl, ?_⟩) hHeld ?_ ?_
  rotate_left
  · rintro w' ⟨s0, s1, s2, s3, s4, s5, s6, s7, s8, s9, s10, s11, s12, s13, s14⟩
    go_simp
    with_reducible rfl
  rotate_left
  · simp only [Act.put, List.setIfInBounds_toArray, List.set_cons_zero, List.set_cons_succ, i64_w, i32_w]
    rfl
  refine join_ (σ := Value × Value × Nat) 2 #[true, true, true, true, true, true, false, false] (fun s => [(15, s.1), (18, s.2.1), (20, .slice (some ⟨s.2.2, 0, none⟩) 1 1)]) (fun s W => MoS w ch A1 l1.length c1 q num den cch bill A2 l2.length c2 x A5 c5 A6 c6 W ∧ Below w2.heap.size w2 W ∧ Kd.R (Kd.fixed k33 w) 33 W w2.heap.size (fun _ => True) s.2.1 l2 ∧ W.heap[s.2.2]? = some (.cells #[.int .i64 x.f0, .string x.f1, .int .i64 x.f2, .bool x.f3, .int .i64 x.f4.f0, .slice A5 x.f4.f1.length c5, .slice A6 x.f4.f2.length c6] 33 (0, 0)) ∧ some s.2.2 ≠ s.2.1.ownBlock) ?cont ?orders
  case orders =>
    intro HJ
    have HW : Hid (Below w2.heap.size w2 w2) := Lib.hid (Below.refl _ _)
    refine two_ (i := 0) (j := 5) (Ni := some 15) (Nj := some 20) #[true, true, true, false, true, false, false, false] #[false, true, true, false, true, true, false, false] rfl rfl rfl rfl (by kernel_rfl) (by decide) (by decide) (fun K hK => ?_) (fun K hK => ?_)
    · skip
      refine Kd.R_lit_step (Kd.fixed k33 w) (w0 := w2) w2.heap.size 33 (by rfl) (N := 15) rfl (xs := []) (inner := []) (okp := fun _ => True) (ok := fun _ => True) (by first | (go_simp; done) | (go_simp; constructor <;> rfl)) (Reps.none _ _) (fun _ _ => trivial) trivial HW.out HW.out.size (by simp) ?_
      intro v0 wa ho0 hb0 hg0 hat0
      have HS0 := Lib.hid (HW0.out.step hb0)
      refine hK.out _ _ (HS0.out.cells) (fun hHeld => ?_)
      clear hK K
      refine norm_ (a' := ?_) ?_ ?_
      rotate_left
      · show Act.put _ (some 15) _ = _
        simp only [Act.put, List.setIfInBounds_toArray, List.set_cons_zero, List.set_cons_succ, i64_w, i32_w]
        rfl
      have HWA := Lib.hid hb0
      have HOA := Lib.hid ho0
      clear hb0 ho0
      refine two_ (i := 3) (j := 5) (Ni := some 18) (Nj := some 20) #[true, true, true, true, true, false, false, false] #[true, true, true, false, true, true, false, false] rfl rfl rfl rfl (by kernel_rfl) (by decide) (by decide) (fun K hK => ?_) (fun K hK => ?_)
      · skip
        refine Kd.R_append_rows_step (Kd.fixed k33 w) (w0 := w2) w2.heap.size (by rfl) (.tmp 15) (.tmp 17) 25 33 _ 96 rfl Tryd.underlying25 infoVote rfl (by show 0 < 7; decide) (by omega) v0 [] l2 A2 l2.length c2 (fun _ => True) (fun _ => False) rfl rfl HOA.out (C_fix (below_step HW0.out.ma.below HWA.out) HR2.out) (fun _ _ h => h) (fun _ hk => hk.elim) (fun _ _ => trivial) HWA.out HWA.out.size (by have := H96.out; simp; omega) ?_
        intro v1 wb ho1 hb1 hg1 hat1
        have HS1 := Lib.hid (HW0.out.step hb1)
        refine hK.out _ _ (HS1.out.cells) (fun hHeld => ?_)
        clear hK K
        refine norm_ (a' := ?_) ?_ ?_
        rotate_left
        · show Act.put _ (some 18) _ = _
          simp only [Act.put, List.setIfInBounds_toArray, List.set_cons_zero, List.set_cons_succ, i64_w, i32_w]
          rfl
        refine one_ (i := 5) (N := some 20) #[true, true, true, true, true, true, false, false] rfl rfl (by kernel_rfl) (by decide) (fun K hK => ?_)
        refine value_ (w1 := ?_) (v := ?_) (by rfl) rfl ?_ ?_
        rotate_left 2
        · go_simp
          constructor
          · rfl
          · rfl
        have hup : Below wb.heap.size wb (wb.alloc (.cells #[.int .i64 x.f0, .string x.f1, .int .i64 x.f2, .bool x.f3, .int .i64 x.f4.f0, .slice A5 x.f4.f1.length c5, .slice A6 x.f4.f2.length c6] 33)) := upB (Below.refl _ _)
        refine hK.out _ _ (HS1.out.step hup).cells (fun hHeld => ?_)
        clear hK K
        refine norm_ (a' := ?_) ?_ ?_
        rotate_left
        · show Act.put _ (some 20) _ = _
          simp only [Act.put, List.setIfInBounds_toArray, List.set_cons_zero, List.set_cons_succ, i64_w, i32_w]
          rfl
        refine HJ (v0, v1, wb.heap.size) _ ⟨HS1.out.step hup, below_step hb1 hup, ?_, blk_new _ _, ?_⟩
        · exact Kd.R_below (by simpa using ho1) hup
        · show some wb.heap.size ≠ v1.ownBlock
          intro e; have := Kd.R_lt ho1 _ e.symm; omega
      · skip
        refine value_ (w1 := ?_) (v := ?_) (by rfl) rfl ?_ ?_
        rotate_left 2
        · go_simp
          constructor
          · rfl
          · rfl
        have hup : Below wa.heap.size wa (wa.alloc (.cells #[.int .i64 x.f0, .string x.f1, .int .i64 x.f2, .bool x.f3, .int .i64 x.f4.f0, .slice A5 x.f4.f1.length c5, .slice A6 x.f4.f2.length c6] 33)) := upB (Below.refl _ _)
        have HSc := Lib.hid (HS0.out.step hup)
        have HWC := Lib.hid (below_step HWA.out hup)
        have HOC := Lib.hid (Kd.R_below HOA.out hup)
        have hbg := blk_new wa (.cells #[.int .i64 x.f0, .string x.f1, .int .i64 x.f2, .bool x.f3, .int .i64 x.f4.f0, .slice A5 x.f4.f1.length c5, .slice A6 x.f4.f2.length c6] 33)
        have hne : some wa.heap.size ≠ v0.ownBlock := fun e => by have := Kd.R_lt HOA.out _ e.symm; omega
        have HBG := Lib.hid hbg
        have HNE := Lib.hid hne
        clear hup hbg hne
        refine hK.out _ _ HSc.out.cells (fun hHeld => ?_)
        clear hK K
        refine norm_ (a' := ?_) ?_ ?_
        rotate_left
        · show Act.put _ (some 20) _ = _
          simp only [Act.put, List.setIfInBounds_toArray, List.set_cons_zero, List.set_cons_succ, i64_w, i32_w]
          rfl
        generalize wa.alloc _ = wc at HSc HWC HOC HBG hHeld ⊢
        refine one_ (i := 3) (N := some 18) #[true, true, true, true, true, true, false, false] rfl rfl (by kernel_rfl) (by decide) (fun K hK => ?_)
        refine Kd.R_append_rows_step (Kd.fixed k33 w) (w0 := w2) w2.heap.size (by rfl) (.tmp 15) (.tmp 17) 25 33 _ 96 rfl Tryd.underlying25 infoVote rfl (by show 0 < 7; decide) (by omega) v0 [] l2 A2 l2.length c2 (fun _ => True) (fun _ => False) rfl rfl HOC.out (C_fix (below_step HW0.out.ma.below HWC.out) HR2.out) (fun _ _ h => h) (fun _ hk => hk.elim) (fun _ _ => trivial) HWC.out HWC.out.size (by have := H96.out; simp; omega) ?_
        intro v1 wd ho1 hb1 hg1 hat1
        have HS1 := Lib.hid (HW0.out.step hb1)
        refine hK.out _ _ (HS1.out.cells) (fun hHeld => ?_)
        clear hK K
        refine norm_ (a' := ?_) ?_ ?_
        rotate_left
        · show Act.put _ (some 18) _ = _
          simp only [Act.put, List.setIfInBounds_toArray, List.set_cons_zero, List.set_cons_succ, i64_w, i32_w]
          rfl
        refine HJ (v0, v1, wa.heap.size) _ ⟨HS1.out, hb1, by simpa using ho1, blk_grown HBG.out hg1 HNE.out, ?_⟩
        show some wa.heap.size ≠ v1.ownBlock
        rcases hat1 with e | ⟨b, e, hle⟩
        · rw [e]; exact HNE.out
        · rw [e]; intro e2; injection e2 with e2; have := blk_lt HBG.out; omega
    · skip
      refine value_ (w1 := ?_) (v := ?_) (by rfl) rfl ?_ ?_
      rotate_left 2
      · go_simp
        constructor
        · rfl
        · rfl
      have hup : Below w2.heap.size w2 (w2.alloc (.cells #[.int .i64 x.f0, .string x.f1, .int .i64 x.f2, .bool x.f3, .int .i64 x.f4.f0, .slice A5 x.f4.f1.length c5, .slice A6 x.f4.f2.length c6] 33)) := upB (Below.refl _ _)
      have HSc := Lib.hid (HW0.out.step hup)
      have HWC := Lib.hid hup
      have hbg := blk_new w2 (.cells #[.int .i64 x.f0, .string x.f1, .int .i64 x.f2, .bool x.f3, .int .i64 x.f4.f0, .slice A5 x.f4.f1.length c5, .slice A6 x.f4.f2.length c6] 33)
      have HBG := Lib.hid hbg
      clear hup hbg HW
      refine hK.out _ _ HSc.out.cells (fun hHeld => ?_)
      clear hK K
      refine norm_ (a' := ?_) ?_ ?_
      rotate_left
      · show Act.put _ (some 20) _ = _
        simp only [Act.put, List.setIfInBounds_toArray, List.set_cons_zero, List.set_cons_succ, i64_w, i32_w]
        rfl
      generalize w2.alloc _ = wc at HSc HWC HBG hHeld ⊢
      have HW := HWC
      refine one_ (i := 0) (N := some 15) #[true, true, true, false, true, true, false, false] rfl rfl (by kernel_rfl) (by decide) (fun K hK => ?_)
      refine Kd.R_lit_step (Kd.fixed k33 w) (w0 := w2) w2.heap.size 33 (by rfl) (N := 15) rfl (xs := []) (inner := []) (okp := fun _ => True) (ok := fun _ => True) (by first | (go_simp; done) | (go_simp; constructor <;> rfl)) (Reps.none _ _) (fun _ _ => trivial) trivial HW.out HW.out.size (by simp) ?_
      intro v0 wd ho0 hb0 hg0 hat0
      have HS0 := Lib.hid (HW0.out.step hb0)
      refine hK.out _ _ (HS0.out.cells) (fun hHeld => ?_)
      clear hK K
      refine norm_ (a' := ?_) ?_ ?_
      rotate_left
      · show Act.put _ (some 15) _ = _
        simp only [Act.put, List.setIfInBounds_toArray, List.set_cons_zero, List.set_cons_succ, i64_w, i32_w]
        rfl
      have hbg2 := blk_grown HBG.out hg0 (by simp)
      have hne : some w2.heap.size ≠ v0.ownBlock := by obtain ⟨b, e, hle⟩ := hat0; rw [e]; intro e2; injection e2 with e2; have := blk_lt HBG.out; omega
      have HBG2 := Lib.hid hbg2
      have HNE := Lib.hid hne
      have HWD := Lib.hid hb0
      have HOD := Lib.hid ho0
      clear hbg2 hne hb0 ho0 hg0 hat0
      refine one_ (i := 3) (N := some 18) #[true, true, true, true, true, true, false, false] rfl rfl (by kernel_rfl) (by decide) (fun K hK => ?_)
      refine Kd.R_append_rows_step (Kd.fixed k33 w) (w0 := w2) w2.heap.size (by rfl) (.tmp 15) (.tmp 17) 25 33 _ 96 rfl Tryd.underlying25 infoVote rfl (by show 0 < 7; decide) (by omega) v0 [] l2 A2 l2.length c2 (fun _ => True) (fun _ => False) rfl rfl HOD.out (C_fix (below_step HW0.out.ma.below HWD.out) HR2.out) (fun _ _ h => h) (fun _ hk => hk.elim) (fun _ _ => trivial) HWD.out HWD.out.size (by have := H96.out; simp; omega) ?_
      intro v1 we ho1 hb1 hg1 hat1
      have HS1 := Lib.hid (HW0.out.step hb1)
      refine hK.out _ _ (HS1.out.cells) (fun hHeld => ?_)
      clear hK K
      refine norm_ (a' := ?_) ?_ ?_
      rotate_left
      · show Act.put _ (some 18) _ = _
        simp only [Act.put, List.setIfInBounds_toArray, List.set_cons_zero, List.set_cons_succ, i64_w, i32_w]
        rfl
      refine HJ (v0, v1, w2.heap.size) _ ⟨HS1.out, hb1, by simpa using ho1, blk_grown HBG2.out hg1 HNE.out, ?_⟩
      show some w2.heap.size ≠ v1.ownBlock
      rcases hat1 with e | ⟨b, e, hle⟩
      · rw [e]; exact HNE.out
      · rw [e]; intro e2; injection e2 with e2; have := blk_lt HBG2.out; omega
  rintro ⟨v0, vA, g⟩ wj ⟨hsj, hwj, hoj, hgj, hnj⟩
  dsimp only at hoj hgj hnj ⊢
  have HSJ := Lib.hid hsj
  have HWJ := Lib.hid hwj
  have HOJ := Lib.hid hoj
  have HGJ := Lib.hid hgj
  have HNJ := Lib.hid hnj
  clear hsj hwj hoj hgj hnj
  refine norm_ (a' := ?_) ?_ ?_
  rotate_left
  · simp only [putAll, Act.put, List.setIfInBounds_toArray, List.set_cons_zero, List.set_cons_succ, i64_w, i32_w]
    rfl
  have hlit : (Kd.fixed k33 w).C wj (some ⟨g, 0, none⟩) 1 [x] := C_lit (d := Kd.fixed k33 w) [x] [[.int .i64 x.f0, .string x.f1, .int .i64 x.f2, .bool x.f3, .int .i64 x.f4.f0, .slice A5 x.f4.f1.length c5, .slice A6 x.f4.f2.length c6]] rfl (by simp) (by
    intro j hj
    have hj' : j < 1 := hj
    obtain rfl : j = 0 := by omega
    exact HVI.out.k) HGJ.out
  refine one_ (i := 6) (N := some 21) #[true, true, true, true, true, true, true, false] rfl rfl (by kernel_rfl) (by decide) (fun K hK => ?_)
  refine Kd.R_append_rows_step (Kd.fixed k33 w) (w0 := w2) w2.heap.size (by rfl) (.tmp 18) (.tmp 20) 25 33 _ 96 rfl Tryd.underlying25 infoVote rfl (by show 0 < 7; decide) (by omega) vA l2 [x] (some ⟨g, 0, none⟩) 1 1 (fun _ => True) (fun _ => False) rfl rfl HOJ.out hlit (fun _ _ h => h) (fun _ hk => hk.elim) (fun _ _ => trivial) HWJ.out HWJ.out.size (by have := H96.out; omega) ?_
  intro v2 wk ho2 hb2 hg2 hat2
  have HSK := Lib.hid (HW0.out.step hb2)
  refine hK.out _ _ (HSK.out.cells) (fun hHeld => ?_)
  clear hK K
  refine norm_ (a' := ?_) ?_ ?_
  rotate_left
  · show Act.put _ (some 21) _ = _
    simp only [Act.put, List.setIfInBounds_toArray, List.set_cons_zero, List.set_cons_succ, i64_w, i32_w]
    rfl
  refine pure_ (i := 7) (N := some 8) (v := ?_) (a' := ?_) #[true, true, true, true, true, true, true, true] rfl rfl (by kernel_rfl) (fun _ _ _ h => h) (Or.inl ⟨by rfl, ?_⟩) ?_ ?_
  rotate_left
  · intro w'
    go_simp
    with_reducible rfl
  rotate_left
  · simp only [Act.put, List.setIfInBounds_toArray, List.set_cons_zero, List.set_cons_succ, i64_w, i32_w]
    rfl
  refine done_ (by kernel_rfl) ?_
  obtain ⟨AL, cL, eL, gL, hCL⟩ := Kd.R_reads ho2
  have hCL2 := C_unfix (below_step HW0.out.ma.below hb2) hCL
  subst eL
  have HL := Lib.hid hCL2
  have HGL := Lib.hid gL
  clear ho2 hb2 hg2 hat2 hCL hCL2 gL HOJ HGJ HNJ HSJ HWJ HW0 HS hHeld
  obtain ⟨q0, q1, q2, q3, q4, q5, q6, q7, t0, t1, t2, t3, t4, t5, t6⟩ := HSK.out.cells
  go_wp2_with fail
  refine (few_snoc 5000 ch A1 c1 l1 q num den AL cL l2 x true _ (Kd.C_below HR1.out HSK.out.ma.below) HC1.out HL.out HGL.out HF.out).mono ?_
  rintro e w5 ⟨rfl, hb⟩
  replace HSK := Lib.hid (HSK.out.step hb)
  replace HL := Lib.hid (Kd.C_below HL.out hb)
  clear hb q0 q1 q2 q3 q4 q5 q6 q7 t0 t1 t2 t3 t4 t5 t6
  obtain ⟨q0, q1, q2, q3, q4, q5, q6, q7, t0, t1, t2, t3, t4, t5, t6⟩ := HSK.out.cells
  go_wp2_with fail
  refine (vote_Carried.calls 5000 ch A1 c1 l1 q num den cch bill A2 c2 l2 was _ (Kd.C_below HR1.out HSK.out.ma.below) HC1.out (Kd.C_below HR2.out HSK.out.ma.below) HC2.out (tabs_below HT.out HSK.out.ma.below) HWAS.out).mono ?_
  rintro e w6 ⟨rfl, hb⟩
  replace HSK := Lib.hid (HSK.out.step hb)
  replace HL := Lib.hid (Kd.C_below HL.out hb)
  clear hb q0 q1 q2 q3 q4 q5 q6 q7 t0 t1 t2 t3 t4 t5 t6
  obtain ⟨q0, q1, q2, q3, q4, q5, q6, q7, t0, t1, t2, t3, t4, t5, t6⟩ := HSK.out.cells
  go_wp2_with fail
  refine (count_snocC 5000 ch A1 c1 l1 q num den bill AL cL l2 x Y N B _ (Kd.C_below HR1.out HSK.out.ma.below) HC1.out HL.out HGL.out (tabs_below HT.out HSK.out.ma.below) HCN.out).mono ?_
  rintro e w7 ⟨vb, rfl, hrb, hb⟩
  replace HSK := Lib.hid (HSK.out.step hb)
  replace HL := Lib.hid (Kd.C_below HL.out hb)
  obtain ⟨AB, cB, rfl, gB, hCB⟩ := Kd.R_reads hrb
  have HCB := Lib.hid hCB
  clear hb hrb hCB q0 q1 q2 q3 q4 q5 q6 q7 t0 t1 t2 t3 t4 t5 t6
  obtain ⟨q0, q1, q2, q3, q4, q5, q6, q7, t0, t1, t2, t3, t4, t5, t6⟩ := HSK.out.cells
  obtain ⟨adB, eB, hB⟩ := int_at HCB.out (Below.refl _ _) (B.length - 1) lastb HLB.out
  subst eB
  have hBp : 0 < B.length := by have := (List.getElem?_eq_some_iff.1 HLB.out).1; omega
  have u1 : IntKind.i64.wrap ((B.length : Int) - 1) = (B.length : Int) - 1 := IntWalk.i64_in _ (by omega)
  have u2 : 0 ≤ (B.length : Int) - 1 := by omega
  have u3 : 1 ≤ (B.length : Int) := by omega
  have u4 : ((B.length : Int) - 1).toNat = B.length - 1 := by omega
  have u5 : decide ((B.length : Int) > 0) = true := decide_eq_true (by omega)
  have u6 : decide (0 < (B.length : Int)) = true := decide_eq_true (by omega)
  have u7 : (lastb == (l2.length : Int)) = false := beq_eq_false_iff_ne.2 HLN.out
  have u8 : decide (lastb = (l2.length : Int)) = false := decide_eq_false HLN.out
  go_wp2_with fail
  go_quiet (fail)
  generalize hW : World.drewN w7 _ = w8
  have hup : Below w7.heap.size w7 w8 := by rw [← hW]; exact upB (Below.refl _ _)
  clear hW
  replace HSK := Lib.hid (HSK.out.step hup)
  replace HL := Lib.hid (Kd.C_below HL.out hup)
  clear hup q0 q1 q2 q3 q4 q5 q6 q7 t0 t1 t2 t3 t4 t5 t6
  obtain ⟨q0, q1, q2, q3, q4, q5, q6, q7, t0, t1, t2, t3, t4, t5, t6⟩ := HSK.out.cells
  go_wp2_with fail
  refine (carried_snoc 5000 ch A1 c1 l1 q num den cch bill AL cL l2 x now _ (Kd.C_below HR1.out HSK.out.ma.below) HC1.out HL.out HGL.out (tabs_below HT.out HSK.out.ma.below) HNOW.out).mono ?_
  rintro e w9 ⟨rfl, hb⟩
  replace HSK := Lib.hid (HSK.out.step hb)
  clear hb q0 q1 q2 q3 q4 q5 q6 q7 t0 t1 t2 t3 t4 t5 t6
  obtain ⟨q0, q1, q2, q3, q4, q5, q6, q7, t0, t1, t2, t3, t4, t5, t6⟩ := HSK.out.cells
  by_cases hw0 : was = 0
  · subst hw0
    cases hy : x.f3 with
    | true =>
      obtain rfl := HY1.out rfl hy
      rw [hy] at t3
      clear hy
      go_wp2
      go_ret
      exact ⟨rfl, HSK.out.ma.below⟩
    | false =>
      rw [hy] at t3
      clear hy
      go_wp2
      go_ret
      exact ⟨rfl, HSK.out.ma.below⟩
  · have z1 : (was != 0) = true := bne_iff_ne.2 hw0
    have z2 : (was == 0) = false := beq_eq_false_iff_ne.2 hw0
    have z3 : decide (was = 0) = false := decide_eq_false hw0
    by_cases hw1 : was = 12
    · subst hw1
      clear z1 z2 z3 hw0
      cases hy : x.f3 with
      | true =>
        rw [hy] at t3
        clear hy
        go_wp2
        go_ret
        exact ⟨rfl, HSK.out.ma.below⟩
      | false =>
        obtain rfl := HY2.out rfl hy
        rw [hy] at t3
        clear hy
        go_wp2
        go_ret
        exact ⟨rfl, HSK.out.ma.below⟩
    · have z4 : (was != 12) = true := bne_iff_ne.2 hw1
      have z5 : (was == 12) = false := beq_eq_false_iff_ne.2 hw1
      have z6 : decide (was = 12) = false := decide_eq_false hw1
      clear hw0 hw1
      go_wp2
      go_ret
      exact ⟨rfl, HSK.out.ma.below⟩


set_option maxHeartbeats 16000000 in
set_option maxRecDepth 100000 in
theorem more_empty (ch : Int) (A1 : Option Addr) (c1 : Nat) (l1 : List ByteArray) (q num den cch : Int) (bill : ByteArray) (A2 : Option Addr) (c2 : Nat) (l2 : List Vo.V) (x : Vo.V) (A5 : Option Addr) (c5 : Nat) (A6 : Option Addr) (c6 : Nat) (w : World) (hr1 : Kd.C Kd.string w A1 l1.length l1) (hc1 : l1.length ≤ c1) (hr2 : Kd.C k33 w A2 l2.length l2) (hc2 : l2.length ≤ c2) (hvi : VoteIs x A5 c5 A6 c6 w) (hT : Tabs w) (hl96 : l2.length * 96 ≤ 140737488351232) (hf : pandectlaw39_few.f 5000 ch l1 q num den (l2 ++ [x]) = some true) (hlen : bill.size ≤ 100) (Y N : Int) (was : Int) (hcn : vote_Count.f 5000 ch l1 q num den bill (l2 ++ [x]) = some (Y, N, [])) (hwas : vote_Carried.f 5000 ch l1 q num den cch bill l2 = some was) (now : Int) (hnow : vote_Carried.f 5000 ch l1 q num den cch bill (l2 ++ [x]) = some now) (hy1 : was = 0 → x.f3 = true → now = 0) (hy2 : was = 12 → x.f3 = false → now = 12) :
    Calls Tryd.prog 6 #[.agg #[.int .i64 ch, .slice A1 l1.length c1, .int .i64 q, .int .i64 num, .int .i64 den], .agg #[.int .i64 cch, .string bill, .slice A2 l2.length c2], .agg #[.int .i64 x.f0, .string x.f1, .int .i64 x.f2, .bool x.f3, .int .i64 x.f4.f0, .slice A5 x.f4.f1.length c5, .slice A6 x.f4.f2.length c6]] w fun e w' => e = .returned (.bool true) ∧ Below w.heap.size w w' := by
  have HS := Lib.hid (MoS.new w ch A1 l1.length c1 q num den cch bill A2 l2.length c2 x A5 c5 A6 c6)
  have HH := Lib.hid (fun W hT => pandectlaw39_head.calls 5000 true W hT (head_is 5000 (by decide)))
  have HT := Lib.hid hT
  have HR1 := Lib.hid hr1
  have HC1 := Lib.hid hc1
  have HR2 := Lib.hid hr2
  have HC2 := Lib.hid hc2
  have HVI := Lib.hid hvi
  have H96 := Lib.hid hl96
  clear hr1 hc1 hr2 hc2 hT hvi hl96
  have HF := Lib.hid hf
  have HCN := Lib.hid hcn
  have HWAS := Lib.hid hwas
  clear hf hcn hwas
  have hlen' : (bill.size : Int) ≤ 100 := by omega
  have HNOW := Lib.hid hnow
  have HY1 := Lib.hid hy1
  have HY2 := Lib.hid hy2
  clear hnow hy1 hy2
  go_enter Tryd.func6, Tryd.ntmps6
  go_wp2_with fail
  refine (HH.out _ (tabs_below HT.out HS.out.ma.below)).mono ?_
  rintro e w1 ⟨rfl, hb⟩
  replace HS := Lib.hid (HS.out.step hb)
  clear hb
  go_wp2_with fail
  replace HS := Lib.hid (HS.out.step (Below.refl _ _).drew)
  refine start_ (n := 8) (S := fun w' => MoC w ch A1 l1.length c1 q num den cch bill A2 l2.length c2 x A5 c5 A6 c6 w') (ds := []) #[false, false, false, false, false, false, false, false] (by kernel_rfl) rfl rfl (HS.out.cells) (fun hHeld => ?_)
  generalize World.drew _ = w2 at HS hHeld ⊢
  have HW0 := HS
  refine pure_ (i := 1) (N := some 16) (v := ?_) (a' := ?_) #[false, true, false, false, false, false, false, false] rfl rfl (by kernel_rfl) (fun _ _ _ h => h) (Or.inl ⟨by rfl, ?_⟩) ?_ ?_
  rotate_left
  · intro w'
    go_simp
    with_reducible rfl
  rotate_left
  · simp only [Act.put, List.setIfInBounds_toArray, List.set_cons_zero, List.set_cons_succ, i64_w, i32_w]
    rfl
  refine take_ (i := 2) (N := some 17) (v := ?_) (a' := ?_) #[false, true, true, false, false, false, false, false] rfl rfl (by kernel_rfl) (fun _ _ _ h => h) (Or.inl ⟨by rfl, ?_⟩) hHeld ?_ ?_
  rotate_left
  · rintro w' ⟨s0, s1, s2, s3, s4, s5, s6, s7, s8, s9, s10, s11, s12, s13, s14⟩
    go_simp
    with_reducible rfl
  rotate_left
  · simp only [Act.put, List.setIfInBounds_toArray, List.set_cons_zero, List.set_cons_succ, i64_w, i32_w]
    rfl
  refine take_ (i := 4) (N := some 19) (v := ?_) (a' := ?_) #[false, true, true, false, true, false, false, false] rfl rfl (by kernel_rfl) (fun _ _ _ h => h) (Or.inl ⟨by rfl, ?_⟩) hHeld ?_ ?_
  rotate_left
  · rintro w' ⟨s0, s1, s2, s3, s4, s5, s6, s7, s8, s9, s10, s11, s12, s13, s14⟩
    go_simp
    with_reducible rfl
  rotate_left
  · simp only [Act.put, List.setIfInBounds_toArray, List.set_cons_zero, List.set_cons_succ, i64_w, i32_w]
    rfl
  refine join_ (σ := Value × Value × Nat) 2 #[true, true, true, true, true, true, false, false] (fun s => [(15, s.1), (18, s.2.1), (20, .slice (some ⟨s.2.2, 0, none⟩) 1 1)]) (fun s W => MoS w ch A1 l1.length c1 q num den cch bill A2 l2.length c2 x A5 c5 A6 c6 W ∧ Below w2.heap.size w2 W ∧ Kd.R (Kd.fixed k33 w) 33 W w2.heap.size (fun _ => True) s.2.1 l2 ∧ W.heap[s.2.2]? = some (.cells #[.int .i64 x.f0, .string x.f1, .int .i64 x.f2, .bool x.f3, .int .i64 x.f4.f0, .slice A5 x.f4.f1.length c5, .slice A6 x.f4.f2.length c6] 33 (0, 0)) ∧ some s.2.2 ≠ s.2.1.ownBlock) ?cont ?orders
  case orders =>
    intro HJ
    have HW : Hid (Below w2.heap.size w2 w2) := Lib.hid (Below.refl _ _)
    refine two_ (i := 0) (j := 5) (Ni := some 15) (Nj := some 20) #[true, true, true, false, true, false, false, false] #[false, true, true, false, true, true, false, false] rfl rfl rfl rfl (by kernel_rfl) (by decide) (by decide) (fun K hK => ?_) (fun K hK => ?_)
    · skip
      refine Kd.R_lit_step (Kd.fixed k33 w) (w0 := w2) w2.heap.size 33 (by rfl) (N := 15) rfl (xs := []) (inner := []) (okp := fun _ => True) (ok := fun _ => True) (by first | (go_simp; done) | (go_simp; constructor <;> rfl)) (Reps.none _ _) (fun _ _ => trivial) trivial HW.out HW.out.size (by simp) ?_
      intro v0 wa ho0 hb0 hg0 hat0
      have HS0 := Lib.hid (HW0.out.step hb0)
      refine hK.out _ _ (HS0.out.cells) (fun hHeld => ?_)
      clear hK K
      refine norm_ (a' := ?_) ?_ ?_
      rotate_left
      · show Act.put _ (some 15) _ = _
        simp only [Act.put, List.setIfInBounds_toArray, List.set_cons_zero, List.set_cons_succ, i64_w, i32_w]
        rfl
      have HWA := Lib.hid hb0
      have HOA := Lib.hid ho0
      clear hb0 ho0
      refine two_ (i := 3) (j := 5) (Ni := some 18) (Nj := some 20) #[true, true, true, true, true, false, false, false] #[true, true, true, false, true, true, false, false] rfl rfl rfl rfl (by kernel_rfl) (by decide) (by decide) (fun K hK => ?_) (fun K hK => ?_)
      · skip
        refine Kd.R_append_rows_step (Kd.fixed k33 w) (w0 := w2) w2.heap.size (by rfl) (.tmp 15) (.tmp 17) 25 33 _ 96 rfl Tryd.underlying25 infoVote rfl (by show 0 < 7; decide) (by omega) v0 [] l2 A2 l2.length c2 (fun _ => True) (fun _ => False) rfl rfl HOA.out (C_fix (below_step HW0.out.ma.below HWA.out) HR2.out) (fun _ _ h => h) (fun _ hk => hk.elim) (fun _ _ => trivial) HWA.out HWA.out.size (by have := H96.out; simp; omega) ?_
        intro v1 wb ho1 hb1 hg1 hat1
        have HS1 := Lib.hid (HW0.out.step hb1)
        refine hK.out _ _ (HS1.out.cells) (fun hHeld => ?_)
        clear hK K
        refine norm_ (a' := ?_) ?_ ?_
        rotate_left
        · show Act.put _ (some 18) _ = _
          simp only [Act.put, List.setIfInBounds_toArray, List.set_cons_zero, List.set_cons_succ, i64_w, i32_w]
          rfl
        refine one_ (i := 5) (N := some 20) #[true, true, true, true, true, true, false, false] rfl rfl (by kernel_rfl) (by decide) (fun K hK => ?_)
        refine value_ (w1 := ?_) (v := ?_) (by rfl) rfl ?_ ?_
        rotate_left 2
        · go_simp
          constructor
          · rfl
          · rfl
        have hup : Below wb.heap.size wb (wb.alloc (.cells #[.int .i64 x.f0, .string x.f1, .int .i64 x.f2, .bool x.f3, .int .i64 x.f4.f0, .slice A5 x.f4.f1.length c5, .slice A6 x.f4.f2.length c6] 33)) := upB (Below.refl _ _)
        refine hK.out _ _ (HS1.out.step hup).cells (fun hHeld => ?_)
        clear hK K
        refine norm_ (a' := ?_) ?_ ?_
        rotate_left
        · show Act.put _ (some 20) _ = _
          simp only [Act.put, List.setIfInBounds_toArray, List.set_cons_zero, List.set_cons_succ, i64_w, i32_w]
          rfl
        refine HJ (v0, v1, wb.heap.size) _ ⟨HS1.out.step hup, below_step hb1 hup, ?_, blk_new _ _, ?_⟩
        · exact Kd.R_below (by simpa using ho1) hup
        · show some wb.heap.size ≠ v1.ownBlock
          intro e; have := Kd.R_lt ho1 _ e.symm; omega
      · skip
        refine value_ (w1 := ?_) (v := ?_) (by rfl) rfl ?_ ?_
        rotate_left 2
        · go_simp
          constructor
          · rfl
          · rfl
        have hup : Below wa.heap.size wa (wa.alloc (.cells #[.int .i64 x.f0, .string x.f1, .int .i64 x.f2, .bool x.f3, .int .i64 x.f4.f0, .slice A5 x.f4.f1.length c5, .slice A6 x.f4.f2.length c6] 33)) := upB (Below.refl _ _)
        have HSc := Lib.hid (HS0.out.step hup)
        have HWC := Lib.hid (below_step HWA.out hup)
        have HOC := Lib.hid (Kd.R_below HOA.out hup)
        have hbg := blk_new wa (.cells #[.int .i64 x.f0, .string x.f1, .int .i64 x.f2, .bool x.f3, .int .i64 x.f4.f0, .slice A5 x.f4.f1.length c5, .slice A6 x.f4.f2.length c6] 33)
        have hne : some wa.heap.size ≠ v0.ownBlock := fun e => by have := Kd.R_lt HOA.out _ e.symm; omega
        have HBG := Lib.hid hbg
        have HNE := Lib.hid hne
        clear hup hbg hne
        refine hK.out _ _ HSc.out.cells (fun hHeld => ?_)
        clear hK K
        refine norm_ (a' := ?_) ?_ ?_
        rotate_left
        · show Act.put _ (some 20) _ = _
          simp only [Act.put, List.setIfInBounds_toArray, List.set_cons_zero, List.set_cons_succ, i64_w, i32_w]
          rfl
        generalize wa.alloc _ = wc at HSc HWC HOC HBG hHeld ⊢
        refine one_ (i := 3) (N := some 18) #[true, true, true, true, true, true, false, false] rfl rfl (by kernel_rfl) (by decide) (fun K hK => ?_)
        refine Kd.R_append_rows_step (Kd.fixed k33 w) (w0 := w2) w2.heap.size (by rfl) (.tmp 15) (.tmp 17) 25 33 _ 96 rfl Tryd.underlying25 infoVote rfl (by show 0 < 7; decide) (by omega) v0 [] l2 A2 l2.length c2 (fun _ => True) (fun _ => False) rfl rfl HOC.out (C_fix (below_step HW0.out.ma.below HWC.out) HR2.out) (fun _ _ h => h) (fun _ hk => hk.elim) (fun _ _ => trivial) HWC.out HWC.out.size (by have := H96.out; simp; omega) ?_
        intro v1 wd ho1 hb1 hg1 hat1
        have HS1 := Lib.hid (HW0.out.step hb1)
        refine hK.out _ _ (HS1.out.cells) (fun hHeld => ?_)
        clear hK K
        refine norm_ (a' := ?_) ?_ ?_
        rotate_left
        · show Act.put _ (some 18) _ = _
          simp only [Act.put, List.setIfInBounds_toArray, List.set_cons_zero, List.set_cons_succ, i64_w, i32_w]
          rfl
        refine HJ (v0, v1, wa.heap.size) _ ⟨HS1.out, hb1, by simpa using ho1, blk_grown HBG.out hg1 HNE.out, ?_⟩
        show some wa.heap.size ≠ v1.ownBlock
        rcases hat1 with e | ⟨b, e, hle⟩
        · rw [e]; exact HNE.out
        · rw [e]; intro e2; injection e2 with e2; have := blk_lt HBG.out; omega
    · skip
      refine value_ (w1 := ?_) (v := ?_) (by rfl) rfl ?_ ?_
      rotate_left 2
      · go_simp
        constructor
        · rfl
        · rfl
      have hup : Below w2.heap.size w2 (w2.alloc (.cells #[.int .i64 x.f0, .string x.f1, .int .i64 x.f2, .bool x.f3, .int .i64 x.f4.f0, .slice A5 x.f4.f1.length c5, .slice A6 x.f4.f2.length c6] 33)) := upB (Below.refl _ _)
      have HSc := Lib.hid (HW0.out.step hup)
      have HWC := Lib.hid hup
      have hbg := blk_new w2 (.cells #[.int .i64 x.f0, .string x.f1, .int .i64 x.f2, .bool x.f3, .int .i64 x.f4.f0, .slice A5 x.f4.f1.length c5, .slice A6 x.f4.f2.length c6] 33)
      have HBG := Lib.hid hbg
      clear hup hbg HW
      refine hK.out _ _ HSc.out.cells (fun hHeld => ?_)
      clear hK K
      refine norm_ (a' := ?_) ?_ ?_
      rotate_left
      · show Act.put _ (some 20) _ = _
        simp only [Act.put, List.setIfInBounds_toArray, List.set_cons_zero, List.set_cons_succ, i64_w, i32_w]
        rfl
      generalize w2.alloc _ = wc at HSc HWC HBG hHeld ⊢
      have HW := HWC
      refine one_ (i := 0) (N := some 15) #[true, true, true, false, true, true, false, false] rfl rfl (by kernel_rfl) (by decide) (fun K hK => ?_)
      refine Kd.R_lit_step (Kd.fixed k33 w) (w0 := w2) w2.heap.size 33 (by rfl) (N := 15) rfl (xs := []) (inner := []) (okp := fun _ => True) (ok := fun _ => True) (by first | (go_simp; done) | (go_simp; constructor <;> rfl)) (Reps.none _ _) (fun _ _ => trivial) trivial HW.out HW.out.size (by simp) ?_
      intro v0 wd ho0 hb0 hg0 hat0
      have HS0 := Lib.hid (HW0.out.step hb0)
      refine hK.out _ _ (HS0.out.cells) (fun hHeld => ?_)
      clear hK K
      refine norm_ (a' := ?_) ?_ ?_
      rotate_left
      · show Act.put _ (some 15) _ = _
        simp only [Act.put, List.setIfInBounds_toArray, List.set_cons_zero, List.set_cons_succ, i64_w, i32_w]
        rfl
      have hbg2 := blk_grown HBG.out hg0 (by simp)
      have hne : some w2.heap.size ≠ v0.ownBlock := by obtain ⟨b, e, hle⟩ := hat0; rw [e]; intro e2; injection e2 with e2; have := blk_lt HBG.out; omega
      have HBG2 := Lib.hid hbg2
      have HNE := Lib.hid hne
      have HWD := Lib.hid hb0
      have HOD := Lib.hid ho0
      clear hbg2 hne hb0 ho0 hg0 hat0
      refine one_ (i := 3) (N := some 18) #[true, true, true, true, true, true, false, false] rfl rfl (by kernel_rfl) (by decide) (fun K hK => ?_)
      refine Kd.R_append_rows_step (Kd.fixed k33 w) (w0 := w2) w2.heap.size (by rfl) (.tmp 15) (.tmp 17) 25 33 _ 96 rfl Tryd.underlying25 infoVote rfl (by show 0 < 7; decide) (by omega) v0 [] l2 A2 l2.length c2 (fun _ => True) (fun _ => False) rfl rfl HOD.out (C_fix (below_step HW0.out.ma.below HWD.out) HR2.out) (fun _ _ h => h) (fun _ hk => hk.elim) (fun _ _ => trivial) HWD.out HWD.out.size (by have := H96.out; simp; omega) ?_
      intro v1 we ho1 hb1 hg1 hat1
      have HS1 := Lib.hid (HW0.out.step hb1)
      refine hK.out _ _ (HS1.out.cells) (fun hHeld => ?_)
      clear hK K
      refine norm_ (a' := ?_) ?_ ?_
      rotate_left
      · show Act.put _ (some 18) _ = _
        simp only [Act.put, List.setIfInBounds_toArray, List.set_cons_zero, List.set_cons_succ, i64_w, i32_w]
        rfl
      refine HJ (v0, v1, w2.heap.size) _ ⟨HS1.out, hb1, by simpa using ho1, blk_grown HBG2.out hg1 HNE.out, ?_⟩
      show some w2.heap.size ≠ v1.ownBlock
      rcases hat1 with e | ⟨b, e, hle⟩
      · rw [e]; exact HNE.out
      · rw [e]; intro e2; injection e2 with e2; have := blk_lt HBG2.out; omega
  rintro ⟨v0, vA, g⟩ wj ⟨hsj, hwj, hoj, hgj, hnj⟩
  dsimp only at hoj hgj hnj ⊢
  have HSJ := Lib.hid hsj
  have HWJ := Lib.hid hwj
  have HOJ := Lib.hid hoj
  have HGJ := Lib.hid hgj
  have HNJ := Lib.hid hnj
  clear hsj hwj hoj hgj hnj
  refine norm_ (a' := ?_) ?_ ?_
  rotate_left
  · simp only [putAll, Act.put, List.setIfInBounds_toArray, List.set_cons_zero, List.set_cons_succ, i64_w, i32_w]
    rfl
  have hlit : (Kd.fixed k33 w).C wj (some ⟨g, 0, none⟩) 1 [x] := C_lit (d := Kd.fixed k33 w) [x] [[.int .i64 x.f0, .string x.f1, .int .i64 x.f2, .bool x.f3, .int .i64 x.f4.f0, .slice A5 x.f4.f1.length c5, .slice A6 x.f4.f2.length c6]] rfl (by simp) (by
    intro j hj
    have hj' : j < 1 := hj
    obtain rfl : j = 0 := by omega
    exact HVI.out.k) HGJ.out
  refine one_ (i := 6) (N := some 21) #[true, true, true, true, true, true, true, false] rfl rfl (by kernel_rfl) (by decide) (fun K hK => ?_)
  refine Kd.R_append_rows_step (Kd.fixed k33 w) (w0 := w2) w2.heap.size (by rfl) (.tmp 18) (.tmp 20) 25 33 _ 96 rfl Tryd.underlying25 infoVote rfl (by show 0 < 7; decide) (by omega) vA l2 [x] (some ⟨g, 0, none⟩) 1 1 (fun _ => True) (fun _ => False) rfl rfl HOJ.out hlit (fun _ _ h => h) (fun _ hk => hk.elim) (fun _ _ => trivial) HWJ.out HWJ.out.size (by have := H96.out; omega) ?_
  intro v2 wk ho2 hb2 hg2 hat2
  have HSK := Lib.hid (HW0.out.step hb2)
  refine hK.out _ _ (HSK.out.cells) (fun hHeld => ?_)
  clear hK K
  refine norm_ (a' := ?_) ?_ ?_
  rotate_left
  · show Act.put _ (some 21) _ = _
    simp only [Act.put, List.setIfInBounds_toArray, List.set_cons_zero, List.set_cons_succ, i64_w, i32_w]
    rfl
  refine pure_ (i := 7) (N := some 8) (v := ?_) (a' := ?_) #[true, true, true, true, true, true, true, true] rfl rfl (by kernel_rfl) (fun _ _ _ h => h) (Or.inl ⟨by rfl, ?_⟩) ?_ ?_
  rotate_left
  · intro w'
    go_simp
    with_reducible rfl
  rotate_left
  · simp only [Act.put, List.setIfInBounds_toArray, List.set_cons_zero, List.set_cons_succ, i64_w, i32_w]
    rfl
  refine done_ (by kernel_rfl) ?_
  obtain ⟨AL, cL, eL, gL, hCL⟩ := Kd.R_reads ho2
  have hCL2 := C_unfix (below_step HW0.out.ma.below hb2) hCL
  subst eL
  have HL := Lib.hid hCL2
  have HGL := Lib.hid gL
  clear ho2 hb2 hg2 hat2 hCL hCL2 gL HOJ HGJ HNJ HSJ HWJ HW0 HS hHeld
  obtain ⟨q0, q1, q2, q3, q4, q5, q6, q7, t0, t1, t2, t3, t4, t5, t6⟩ := HSK.out.cells
  go_wp2_with fail
  refine (few_snoc 5000 ch A1 c1 l1 q num den AL cL l2 x true _ (Kd.C_below HR1.out HSK.out.ma.below) HC1.out HL.out HGL.out HF.out).mono ?_
  rintro e w5 ⟨rfl, hb⟩
  replace HSK := Lib.hid (HSK.out.step hb)
  replace HL := Lib.hid (Kd.C_below HL.out hb)
  clear hb q0 q1 q2 q3 q4 q5 q6 q7 t0 t1 t2 t3 t4 t5 t6
  obtain ⟨q0, q1, q2, q3, q4, q5, q6, q7, t0, t1, t2, t3, t4, t5, t6⟩ := HSK.out.cells
  go_wp2_with fail
  refine (vote_Carried.calls 5000 ch A1 c1 l1 q num den cch bill A2 c2 l2 was _ (Kd.C_below HR1.out HSK.out.ma.below) HC1.out (Kd.C_below HR2.out HSK.out.ma.below) HC2.out (tabs_below HT.out HSK.out.ma.below) HWAS.out).mono ?_
  rintro e w6 ⟨rfl, hb⟩
  replace HSK := Lib.hid (HSK.out.step hb)
  replace HL := Lib.hid (Kd.C_below HL.out hb)
  clear hb q0 q1 q2 q3 q4 q5 q6 q7 t0 t1 t2 t3 t4 t5 t6
  obtain ⟨q0, q1, q2, q3, q4, q5, q6, q7, t0, t1, t2, t3, t4, t5, t6⟩ := HSK.out.cells
  go_wp2_with fail
  refine (count_snocC 5000 ch A1 c1 l1 q num den bill AL cL l2 x Y N [] _ (Kd.C_below HR1.out HSK.out.ma.below) HC1.out HL.out HGL.out (tabs_below HT.out HSK.out.ma.below) HCN.out).mono ?_
  rintro e w7 ⟨vb, rfl, hrb, hb⟩
  replace HSK := Lib.hid (HSK.out.step hb)
  replace HL := Lib.hid (Kd.C_below HL.out hb)
  obtain ⟨AB, cB, rfl, gB, hCB⟩ := Kd.R_reads hrb
  have HCB := Lib.hid hCB
  clear hb hrb hCB q0 q1 q2 q3 q4 q5 q6 q7 t0 t1 t2 t3 t4 t5 t6
  obtain ⟨q0, q1, q2, q3, q4, q5, q6, q7, t0, t1, t2, t3, t4, t5, t6⟩ := HSK.out.cells
  go_wp2_with fail
  go_quiet (fail)
  generalize hW : World.drewN w7 _ = w8
  have hup : Below w7.heap.size w7 w8 := by rw [← hW]; exact upB (Below.refl _ _)
  clear hW
  replace HSK := Lib.hid (HSK.out.step hup)
  replace HL := Lib.hid (Kd.C_below HL.out hup)
  clear hup q0 q1 q2 q3 q4 q5 q6 q7 t0 t1 t2 t3 t4 t5 t6
  obtain ⟨q0, q1, q2, q3, q4, q5, q6, q7, t0, t1, t2, t3, t4, t5, t6⟩ := HSK.out.cells
  go_wp2_with fail
  refine (carried_snoc 5000 ch A1 c1 l1 q num den cch bill AL cL l2 x now _ (Kd.C_below HR1.out HSK.out.ma.below) HC1.out HL.out HGL.out (tabs_below HT.out HSK.out.ma.below) HNOW.out).mono ?_
  rintro e w9 ⟨rfl, hb⟩
  replace HSK := Lib.hid (HSK.out.step hb)
  clear hb q0 q1 q2 q3 q4 q5 q6 q7 t0 t1 t2 t3 t4 t5 t6
  obtain ⟨q0, q1, q2, q3, q4, q5, q6, q7, t0, t1, t2, t3, t4, t5, t6⟩ := HSK.out.cells
  by_cases hw0 : was = 0
  · subst hw0
    cases hy : x.f3 with
    | true =>
      obtain rfl := HY1.out rfl hy
      rw [hy] at t3
      clear hy
      go_wp2
      go_ret
      exact ⟨rfl, HSK.out.ma.below⟩
    | false =>
      rw [hy] at t3
      clear hy
      go_wp2
      go_ret
      exact ⟨rfl, HSK.out.ma.below⟩
  · have z1 : (was != 0) = true := bne_iff_ne.2 hw0
    have z2 : (was == 0) = false := beq_eq_false_iff_ne.2 hw0
    have z3 : decide (was = 0) = false := decide_eq_false hw0
    by_cases hw1 : was = 12
    · subst hw1
      clear z1 z2 z3 hw0
      cases hy : x.f3 with
      | true =>
        rw [hy] at t3
        clear hy
        go_wp2
        go_ret
        exact ⟨rfl, HSK.out.ma.below⟩
      | false =>
        obtain rfl := HY2.out rfl hy
        rw [hy] at t3
        clear hy
        go_wp2
        go_ret
        exact ⟨rfl, HSK.out.ma.below⟩
    · have z4 : (was != 12) = true := bne_iff_ne.2 hw1
      have z5 : (was == 12) = false := beq_eq_false_iff_ne.2 hw1
      have z6 : decide (was = 12) = false := decide_eq_false hw1
      clear hw0 hw1
      go_wp2
      go_ret
      exact ⟨rfl, HSK.out.ma.below⟩


def pandectlaw39_VoteMore.f (k : Nat) (a0 : Int) (l1 : List ByteArray) (a2 a3 a4 a5 : Int) (a6 : ByteArray) (l7 : List Vo.V) (x : Vo.V) : Option Bool := if l7.length * 96 ≤ 140737488351232 then some true else none
theorem pandectlaw39_VoteMore.calls (k : Nat) (ch : Int) (A1 : Option Addr) (c1 : Nat) (l1 : List ByteArray) (q num den cch : Int) (bill : ByteArray) (A2 : Option Addr) (c2 : Nat) (l2 : List Vo.V) (x : Vo.V) (A5 : Option Addr) (c5 : Nat) (A6 : Option Addr) (c6 : Nat) (r : Bool) (w : World) (hr1 : Kd.C Kd.string w A1 l1.length l1) (hc1 : l1.length ≤ c1) (hr2 : Kd.C k33 w A2 l2.length l2) (hc2 : l2.length ≤ c2) (hr5 : Kd.C Kd.string w A5 x.f4.f1.length x.f4.f1) (hc5 : x.f4.f1.length ≤ c5) (hr6 : Kd.C Kd.string w A6 x.f4.f2.length x.f4.f2) (hc6 : x.f4.f2.length ≤ c6) (hT : Tabs w)
    (h : pandectlaw39_VoteMore.f k ch l1 q num den cch bill l2 x = some r) :
    Calls Tryd.prog 6 #[.agg #[.int .i64 ch, .slice A1 l1.length c1, .int .i64 q, .int .i64 num, .int .i64 den], .agg #[.int .i64 cch, .string bill, .slice A2 l2.length c2], .agg #[.int .i64 x.f0, .string x.f1, .int .i64 x.f2, .bool x.f3, .int .i64 x.f4.f0, .slice A5 x.f4.f1.length c5, .slice A6 x.f4.f2.length c6]] w fun e w' => e = .returned (.bool r) ∧ Below w.heap.size w w' := by
  unfold pandectlaw39_VoteMore.f at h
  split at h
  case isFalse => cases h
  rename_i h96
  cases h
  have hvi : VoteIs x A5 c5 A6 c6 w := ⟨hc5, hr5, hc6, hr6⟩
  obtain ⟨b, hb, hb2⟩ := few_is ch l1 q num den (l2 ++ [x]) 5000 (by decide)
  cases b with
  | false => exact more_few ch A1 c1 l1 q num den cch bill A2 c2 l2 x A5 c5 A6 c6 w hr1 hc1 hr2 hc2 hvi hT h96 hb
  | true =>
    obtain ⟨f1, _⟩ := hb2 rfl
    have hle : l2.length ≤ 7 := by rw [List.length_append, List.length_cons, List.length_nil] at f1; omega
    by_cases ht : 100 < bill.size
    · exact more_long ch A1 c1 l1 q num den cch bill A2 c2 l2 x A5 c5 A6 c6 w hr1 hc1 hr2 hc2 hvi hT h96 hb ht
    · have hcn := count_is 5000 (by decide) ch l1 q num den bill (by omega) (l2 ++ [x]) (by omega)
      have hwas := carried_is 5000 (by decide) ch l1 q num den cch bill l2 (by omega)
      have hnow := carried_is 5000 (by decide) ch l1 q num den cch bill (l2 ++ [x]) (by omega)
      have hinv := Vo.count_inv ch l1 q num den bill (l2 ++ [x])
      cases hco : Vo.counts (Vo.okv ch l1 q num den bill) (Vo.count ch l1 q num den bill l2) x with
      | false =>
        have hbad := Vo.more_no ch l1 q num den bill l2 x hco
        refine more_not ch A1 c1 l1 q num den cch bill A2 c2 l2 x A5 c5 A6 c6 w hr1 hc1 hr2 hc2 hvi hT h96 hb (by omega) _ _ _ _ hcn hwas (by omega) ?_
        rw [hbad]
        simp
      | true =>
        obtain ⟨m1, m2, m3⟩ := Vo.more_yes ch l1 q num den cch bill l2 (by omega) x hco
        by_cases hB : (Vo.count ch l1 q num den bill (l2 ++ [x])).bad = []
        · rw [hB] at hcn
          exact more_empty ch A1 c1 l1 q num den cch bill A2 c2 l2 x A5 c5 A6 c6 w hr1 hc1 hr2 hc2 hvi hT h96 hb (by omega) _ _ _ hcn hwas _ hnow m2 m3
        · have hpos : 0 < (Vo.count ch l1 q num den bill (l2 ++ [x])).bad.length := List.length_pos_iff.2 hB
          have hlt : (Vo.count ch l1 q num den bill (l2 ++ [x])).bad.length - 1 < (Vo.count ch l1 q num den bill (l2 ++ [x])).bad.length := by omega
          exact more_other ch A1 c1 l1 q num den cch bill A2 c2 l2 x A5 c5 A6 c6 w hr1 hc1 hr2 hc2 hvi hT h96 hb (by omega) _ _ _ _ hcn hwas (by omega) _ hnow m2 m3 _ (List.getElem?_eq_getElem hlt) (m1 _ (List.getElem_mem hlt))

end Go.Proofs.YtoimnllcniefoaaDoor.P
