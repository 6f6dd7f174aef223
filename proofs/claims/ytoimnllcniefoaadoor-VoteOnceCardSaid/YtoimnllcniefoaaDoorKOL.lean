import Derived.Test.YtoimnllcniefoaaDoorTie
import Derived.Test.YtoimnllcniefoaaDoorKPx0
import Derived.Test.YtoimnllcniefoaaDoorKPx1
import Derived.Test.YtoimnllcniefoaaDoorKPx2
import Derived.Test.YtoimnllcniefoaaDoorKPx3
import Derived.Test.YtoimnllcniefoaaDoorKPx4
import Derived.Test.YtoimnllcniefoaaDoorKPx6
import Derived.Test.YtoimnllcniefoaaDoorKOPx7
import Derived.Test.YtoimnllcniefoaaDoorKD
import Derived.Test.YtoimnllcniefoaaDoorKTa
import Derived.Test.YtoimnllcniefoaaDoorKVa
import Derived.Test.YtoimnllcniefoaaDoorKVb
import Derived.Test.YtoimnllcniefoaaDoorKOPx8
import Derived.ProofKit
import Derived.OpenShut
import Derived.ShutString
import Derived.LaidMore
import Derived.LaidSub
import Derived.Lay
import Derived.SevenTiedAt
import Derived.Stop.Joined
import Derived.SliceStrings
import Derived.Lib.SmallJoins
import Derived.Test.YtoimnllcniefoaaDoorKOV
set_option linter.unusedVariables false
set_option linter.unusedSimpArgs false
/- What every row of the seat needs: the listed variables, the table that strconv.Itoa reads, a slice of strings as an argument. -/
namespace Go.Proofs.YtoimnllcniefoaaDoor.P
open Go.ChangeShapes Go.WideShapes Go.ChangeAt Go.RowKit
open Go.Proofs.YtoimnllcniefoaaDoor Go.Proofs.YtoimnllcniefoaaDoorW.PrintWords Go.Proofs.YtoimnllcniefoaaDoorW.PrintLast Go.Proofs.YtoimnllcniefoaaDoorW.PrintMore
set_option linter.unusedVariables false

theorem own : ownKnob Tryd.prog.godebug = none := by kernel_rfl
theorem laidOut : laidOutB Tryd.prog = true := by kernel_rfl
def laid : List (String × DataW Unit) := [("math/bits.deBruijn32tab", Rows.laid_math_bits_deBruijn32tab), ("math/bits.deBruijn64tab", Rows.laid_math_bits_deBruijn64tab), ("internal/strconv.uint64pow10", Rows.laid_internal_strconv_uint64pow10), ("unicode/utf8.acceptRanges", Rows.laid_unicode_utf8_acceptRanges), ("unicode/utf8.first", Rows.laid_unicode_utf8_first)]

theorem tabs_of_laid {W : World} (h : laidMetH Tryd.prog laid W) : Tabs W := by
  have h2 := h.filter (fun x => x.1 == "internal/strconv.uint64pow10")
  have e : laid.filter (fun x => x.1 == "internal/strconv.uint64pow10") = [("internal/strconv.uint64pow10", Lib.tabData .u64 Lib.pow10Tab)] := by kernel_rfl
  rw [e, MakeChecks.laidMetH_plain _ _ _ (by kernel_rfl)] at h2
  exact Lib.tabIs_of_head tabs_global (t := 138) (e := 80) (n := 20) (by kernel_rfl) Tryd.underlying138 Tryd.underlying80 (by kernel_rfl) (by kernel_rfl) h2

/-- The witness: a start in which the listed variables read as the row says. -/
theorem laid_met (os : Os) (args : Array Value) : laidMetH Tryd.prog laid ((World.laidAll Tryd.prog os laid).forCall (fun _ _ => 0) ⟨#[], args, []⟩).memory := by
  rw [MakeChecks.laidMetH_plain _ _ _ (by kernel_rfl)]
  exact laidMet_laidAll _ (by kernel_rfl) (by kernel_rfl)
theorem laid_shaped (os : Os) (args : Array Value) : ((World.laidAll Tryd.prog os laid).forCall (fun _ _ => 0) ⟨#[], args, []⟩).Shaped Tryd.prog :=
  World.shaped_of_ZipB (by kernel_rfl) (by kernel_rfl)

end Go.Proofs.YtoimnllcniefoaaDoor.P
/- Arguments that came in, as the print reads them: slices of whatever, seals, votes, rolls, certificates. -/
namespace Go.Proofs.YtoimnllcniefoaaDoor.P
open Go.ChangeShapes Go.WideShapes Go.ChangeAt Go.RowKit
open Go.Proofs.YtoimnllcniefoaaDoor Go.Proofs.YtoimnllcniefoaaDoorW.PrintWords Go.Proofs.YtoimnllcniefoaaDoorW.PrintLast Go.Proofs.YtoimnllcniefoaaDoorW.PrintMore
set_option linter.unusedVariables false

section
variable {H : Type} {enc : TypeId × Value → H} {W : World} {spare : Nat → Bool} {held : Bool}
theorem int_in {n : Nat} {cs : List Value} {x : DataW H × List MemPlace} (h : DataW.trod enc Tryd.prog W 0 spare held n 3 cs = some x) : ∃ a : Int, cs = [.int .i64 a] ∧ -9223372036854775808 ≤ a ∧ a ≤ 9223372036854775807 := by
  obtain ⟨a, e, _, hw⟩ := DataW.trod_int Tryd.underlying3 h
  refine ⟨a, e, ?_⟩
  simp [Lit.wf, IntKind.min, IntKind.max, IntKind.signed, IntKind.bits] at hw
  omega
theorem str_in {n : Nat} {cs : List Value} {x : DataW H × List MemPlace} (h : DataW.trod enc Tryd.prog W 0 spare held n 9 cs = some x) : ∃ a : ByteArray, cs = [.string a] ∧ a.size ≤ 9223372036854775807 := by
  obtain ⟨a, e, _, hw⟩ := DataW.trod_string Tryd.underlying9 h
  exact ⟨a, e, hw⟩
theorem bool_in {n : Nat} {cs : List Value} {x : DataW H × List MemPlace} (h : DataW.trod enc Tryd.prog W 0 spare held n 4 cs = some x) : ∃ a : Bool, cs = [.bool a] := by
  obtain ⟨a, e, _⟩ := DataW.trod_bool Tryd.underlying4 h
  exact ⟨a, e⟩

set_option maxRecDepth 100000 in
theorem slice_in {α : Type} {d : Kd α} {Q : α → Prop} {T e : TypeId} (ht : Tryd.prog.underlying T = some (.slice e)) (hz : Tryd.prog.cellsOf e = d.sz)
    (hel : ∀ n cs x, DataW.trod enc Tryd.prog W 0 spare held n e cs = some x → ∃ a, d.K W a cs ∧ Q a) {n : Nat} {cs : List Value} {x : DataW H × List MemPlace} (h : DataW.trod enc Tryd.prog W 0 spare held n T cs = some x) :
    ∃ (l : List α) (A : Option Addr) (c : Nat), cs = [.slice A l.length c] ∧ l.length ≤ c ∧ d.C W A l.length l ∧ ∀ a ∈ l, Q a := by
  rcases DataW.trod_slice ht h with ⟨rfl, _⟩ | ⟨ad, len, cap, elems, rest, m, _, rfl, _, _, hlc, hcm, hl, hE, _, _⟩
  · exact ⟨[], none, 0, rfl, Nat.le_refl _, ⟨rfl, by simp, fun h => by simp at h⟩, fun a ha => by cases ha⟩
  · have hp : ∀ i : Fin len, ∃ a : α, (∃ c, c.length = d.sz ∧ d.K W a c ∧ ∀ j u, c[j]? = some u → W.cell? (ad.add (i.1 * d.sz + j)) = some u) ∧ Q a := by
      intro i
      have h1 := hE i.1 i.2
      rw [List.getElem?_eq_getElem (by omega)] at h1
      obtain ⟨c, hc, ht⟩ := Option.bind_eq_some_iff.1 h1
      obtain ⟨a, hK, hQ⟩ := hel m c _ ht
      obtain ⟨_, hcl, hcc⟩ := World.cells?_some hc
      refine ⟨a, ⟨c, d.K_len hK, hK, fun j u hu => ?_⟩, hQ⟩
      have hj : j < Tryd.prog.cellsOf e := by
        have := (List.getElem?_eq_some_iff.1 hu).1
        omega
      have := hcc j hj
      rw [hu, hz] at this
      rw [← this]
      rw [Addr.add_add]
    obtain ⟨f, hf⟩ := Classical.axiomOfChoice hp
    have hlen : (List.ofFn f).length = len := List.length_ofFn
    have hcap : cap ≤ 9223372036854775807 := hcm
    refine ⟨List.ofFn f, some ad, cap, by rw [hlen], by omega, ⟨rfl, by omega, fun _ => ⟨ad, rfl, fun j p hpj => ?_⟩⟩, fun a ha => ?_⟩
    · obtain ⟨hj, hpe⟩ := List.getElem?_eq_some_iff.1 hpj
      rw [List.getElem_ofFn] at hpe
      subst hpe
      exact (hf ⟨j, by omega⟩).1
    · obtain ⟨i, rfl⟩ := List.mem_ofFn.1 ha
      exact (hf i).2

theorem strs_in {n : Nat} {cs : List Value} {x : DataW H × List MemPlace} (h : DataW.trod enc Tryd.prog W 0 spare held n 22 cs = some x) : ∃ (l : List ByteArray) (A : Option Addr) (c : Nat), cs = [.slice A l.length c] ∧ l.length ≤ c ∧ Kd.string.C W A l.length l := by
  obtain ⟨l, A, c, e, hc, hC, _⟩ := slice_in (d := Kd.string) (Q := fun _ => True) Tryd.underlying22 (by kernel_rfl) (fun n cs x h => by obtain ⟨a, e, _⟩ := str_in h; exact ⟨a, e, trivial⟩) h
  exact ⟨l, A, c, e, hc, hC⟩

theorem len7 {cs : List Value} (h : cs.length = 7) : ∃ a b c d e f g, cs = [a, b, c, d, e, f, g] := by
  match cs, h with
  | [a, b, c, d, e, f, g], _ => exact ⟨a, b, c, d, e, f, g, rfl⟩
theorem len5 {cs : List Value} (h : cs.length = 5) : ∃ a b c d e, cs = [a, b, c, d, e] := by
  match cs, h with
  | [a, b, c, d, e], _ => exact ⟨a, b, c, d, e, rfl⟩
theorem len3 {cs : List Value} (h : cs.length = 3) : ∃ a b c, cs = [a, b, c] := by
  match cs, h with
  | [a, b, c], _ => exact ⟨a, b, c, rfl⟩

/-- The field i of a struct that came in. -/
theorem field_in {fs : Array Field} {xs : List (DataW H × List MemPlace)} {n : Nat} {cs : List Value} (hl : xs.length = fs.size) (h : ∀ (i : Nat) (f : Field), fs[i]? = some f → DataW.trod enc Tryd.prog W 0 spare held n f.type ((cs.drop f.offset).take (Tryd.prog.cellsOf f.type)) = xs[i]?) (i : Nat) (f : Field) (hf : fs[i]? = some f) {T o c : Nat} (e1 : f.type = T) (e2 : f.offset = o) (e3 : Tryd.prog.cellsOf T = c) : ∃ x, DataW.trod enc Tryd.prog W 0 spare held n T ((cs.drop o).take c) = some x := by
  have h1 := h i f hf
  subst e1; subst e2; subst e3
  have hi : i < xs.length := by rw [hl]; exact (Array.getElem?_eq_some_iff.1 hf).1
  rw [List.getElem?_eq_getElem hi] at h1
  exact ⟨_, h1⟩

theorem seal_in {n : Nat} {cs : List Value} {x : DataW H × List MemPlace} (h : DataW.trod enc Tryd.prog W 0 spare held n 31 cs = some x) : ∃ a : S31, k31.K W a cs := by
  obtain ⟨xs, m, _, _, hl, hxl, hf⟩ := DataW.trod_struct Tryd.underlying31 h
  obtain ⟨v0, v1, v2, rfl⟩ := len3 (hl.trans (by kernel_rfl))
  obtain ⟨y0, t0⟩ := field_in hxl hf 0 _ rfl (T := 3) (o := 0) (c := 1) rfl rfl (by kernel_rfl)
  obtain ⟨y1, t1⟩ := field_in hxl hf 1 _ rfl (T := 22) (o := 1) (c := 1) rfl rfl (by kernel_rfl)
  obtain ⟨y2, t2⟩ := field_in hxl hf 2 _ rfl (T := 22) (o := 2) (c := 1) rfl rfl (by kernel_rfl)
  obtain ⟨a0, e0, _⟩ := int_in t0
  obtain ⟨l1, A1, c1, e1, g1, h1⟩ := strs_in t1
  obtain ⟨l2, A2, c2, e2, g2, h2⟩ := strs_in t2
  simp only [List.drop, List.take, List.cons.injEq, and_true] at e0 e1 e2
  subst e0; subst e1; subst e2
  exact ⟨⟨a0, l1, l2⟩, k31_mk W ⟨a0, l1, l2⟩ g1 h1 g2 h2⟩

/-- The whole numbers of a vote are of their kind. -/
def Wv (v : S33) : Prop := -9223372036854775808 ≤ v.f0 ∧ v.f0 ≤ 9223372036854775807 ∧ -9223372036854775808 ≤ v.f2 ∧ v.f2 ≤ 9223372036854775807

theorem vote_in {n : Nat} {cs : List Value} {x : DataW H × List MemPlace} (h : DataW.trod enc Tryd.prog W 0 spare held n 33 cs = some x) : ∃ a : S33, k33.K W a cs ∧ Wv a := by
  obtain ⟨xs, m, _, _, hl, hxl, hf⟩ := DataW.trod_struct Tryd.underlying33 h
  obtain ⟨v0, v1, v2, v3, v4, v5, v6, rfl⟩ := len7 (hl.trans (by kernel_rfl))
  obtain ⟨y0, t0⟩ := field_in hxl hf 0 _ rfl (T := 3) (o := 0) (c := 1) rfl rfl (by kernel_rfl)
  obtain ⟨y1, t1⟩ := field_in hxl hf 1 _ rfl (T := 9) (o := 1) (c := 1) rfl rfl (by kernel_rfl)
  obtain ⟨y2, t2⟩ := field_in hxl hf 2 _ rfl (T := 3) (o := 2) (c := 1) rfl rfl (by kernel_rfl)
  obtain ⟨y3, t3⟩ := field_in hxl hf 3 _ rfl (T := 4) (o := 3) (c := 1) rfl rfl (by kernel_rfl)
  obtain ⟨y4, t4⟩ := field_in hxl hf 4 _ rfl (T := 31) (o := 4) (c := 3) rfl rfl (by kernel_rfl)
  obtain ⟨a0, e0, b0⟩ := int_in t0
  obtain ⟨a1, e1, _⟩ := str_in t1
  obtain ⟨a2, e2, b2⟩ := int_in t2
  obtain ⟨a3, e3⟩ := bool_in t3
  obtain ⟨s, hs⟩ := seal_in t4
  obtain ⟨A1, c1, A2, c2, e4, g1, h1, g2, h2⟩ := k31_open hs
  simp only [List.drop, List.take, List.cons.injEq, and_true] at e0 e1 e2 e3 e4
  obtain ⟨e4, e5, e6⟩ := e4
  subst e0; subst e1; subst e2; subst e3; subst e4; subst e5; subst e6
  exact ⟨⟨a0, a1, a2, a3, s⟩, k33_mk W ⟨a0, a1, a2, a3, s⟩ g1 h1 g2 h2, b0.1, b0.2, b2.1, b2.2⟩

theorem votes_in {n : Nat} {cs : List Value} {x : DataW H × List MemPlace} (h : DataW.trod enc Tryd.prog W 0 spare held n 25 cs = some x) : ∃ (l : List S33) (A : Option Addr) (c : Nat), cs = [.slice A l.length c] ∧ l.length ≤ c ∧ k33.C W A l.length l ∧ ∀ v ∈ l, Wv v :=
  slice_in Tryd.underlying25 (by kernel_rfl) (fun n cs x h => vote_in h) h

set_option maxRecDepth 100000 in
theorem roll_in {v : Value} {d : DataW H} {p : List MemPlace} {r : Reach} {b0 : Nat} (hv : Value.okWide Tryd.prog W r b0 24 v) (h : DataW.Trod enc Tryd.prog W 0 spare held 24 v d p) :
    ∃ (a0 : Int) (A1 : Option Addr) (c1 : Nat) (l1 : List ByteArray) (a2 a3 a4 : Int), v = .agg #[.int .i64 a0, .slice A1 l1.length c1, .int .i64 a2, .int .i64 a3, .int .i64 a4] ∧ l1.length ≤ c1 ∧ Kd.string.C W A1 l1.length l1 := by
  obtain ⟨cs, rfl, hsz⟩ := okWide_struct Tryd.underlying24 hv
  obtain ⟨fuel, hf⟩ := h
  obtain ⟨xs, m, _, _, hl, hxl, hf⟩ := DataW.trod_struct Tryd.underlying24 hf
  obtain ⟨v0, v1, v2, v3, v4, hcs⟩ := len5 (hl.trans (by kernel_rfl))
  rw [hcs] at hf
  obtain ⟨y0, t0⟩ := field_in hxl hf 0 _ rfl (T := 3) (o := 0) (c := 1) rfl rfl (by kernel_rfl)
  obtain ⟨y1, t1⟩ := field_in hxl hf 1 _ rfl (T := 22) (o := 1) (c := 1) rfl rfl (by kernel_rfl)
  obtain ⟨y2, t2⟩ := field_in hxl hf 2 _ rfl (T := 3) (o := 2) (c := 1) rfl rfl (by kernel_rfl)
  obtain ⟨y3, t3⟩ := field_in hxl hf 3 _ rfl (T := 3) (o := 3) (c := 1) rfl rfl (by kernel_rfl)
  obtain ⟨y4, t4⟩ := field_in hxl hf 4 _ rfl (T := 3) (o := 4) (c := 1) rfl rfl (by kernel_rfl)
  obtain ⟨a0, e0, _⟩ := int_in t0
  obtain ⟨l1, A1, c1, e1, g1, h1⟩ := strs_in t1
  obtain ⟨a2, e2, _⟩ := int_in t2
  obtain ⟨a3, e3, _⟩ := int_in t3
  obtain ⟨a4, e4, _⟩ := int_in t4
  simp only [List.drop, List.take, List.cons.injEq, and_true] at e0 e1 e2 e3 e4
  subst e0; subst e1; subst e2; subst e3; subst e4
  exact ⟨a0, A1, c1, l1, a2, a3, a4, by rw [← Array.toArray_toList (xs := cs)]; exact congrArg (fun l => Value.agg l.toArray) hcs, g1, h1⟩

end
end Go.Proofs.YtoimnllcniefoaaDoor.P
/- The law VoteOnce of the printed functions. -/
namespace Go.Proofs.YtoimnllcniefoaaDoor.P
open Go.RowKit Go.Proofs.YtoimnllcniefoaaDoor Go.Proofs.YtoimnllcniefoaaDoorW.PrintWords Go.Proofs.YtoimnllcniefoaaDoorW.PrintLast Go.Proofs.YtoimnllcniefoaaDoorW.PrintMore
set_option linter.unusedVariables false
set_option linter.unusedSimpArgs false

theorem once_loop (ch : Int) (keys : List ByteArray) (q num den : Int) (text : ByteArray) (l : List Vo.V) (hl : l.length ≤ 1000) (hn : keys.length ≤ 1000) :
    ∀ (r j k : Nat), j + r = l.length → pandectlaw39_VoteOnce.l0 (3 * r + 1 + k) text l true (Vo.count ch keys q num den text l).yes (Vo.count ch keys q num den text l).bad (Vo.tr keys.length (Vo.cnt (Vo.okv ch keys q num den text) l j).seen) ((Vo.cnt (Vo.okv ch keys q num den text) l j).bad.length : Int) (Vo.cnt (Vo.okv ch keys q num den text) l j).yes (j : Int) ch keys q num den = some true := by
  intro r
  induction r with
  | zero =>
    intro j k hj
    obtain rfl : j = l.length := by omega
    rw [show 3 * 0 + 1 + k = k + 1 by omega, pandectlaw39_VoteOnce.l0, if_neg (by omega), if_pos rfl]
    unfold Vo.count
    rw [if_pos rfl]
    simp
  | succ r ih =>
    intro j k hj
    have hlt : j < l.length := by omega
    have hn2 := Vo.bad_next (ok := Vo.okv ch keys q num den text) l j l.length hlt (Nat.le_refl _)
    have hcs := Vo.cnt_succ (ok := Vo.okv ch keys q num den text) l j hlt
    have hi := fun k => ih (j + 1) k (by omega)
    obtain ⟨i1, i2, i3, i4⟩ := Vo.cnt_inv (ok := Vo.okv ch keys q num den text) l j (by omega)
    rw [show 3 * (r + 1) + 1 + k = (3 * r + 1 + k) + 1 + 1 + 1 by omega, pandectlaw39_VoteOnce.l0, if_pos (by omega)]
    have hB : (Vo.count ch keys q num den text l).bad = (Vo.cnt (Vo.okv ch keys q num den text) l l.length).bad := rfl
    rw [← hB] at hn2
    generalize (Vo.count ch keys q num den text l).bad = B at hn2 hi ⊢
    generalize (Vo.count ch keys q num den text l).yes = Y at hi ⊢
    rw [hcs] at hi
    generalize hs : Vo.cnt (Vo.okv ch keys q num den text) l j = s at *
    by_cases hc : Vo.counts (Vo.okv ch keys q num den text) s l[j] = true
    · rw [if_pos hc] at hn2
      have hstep : pandectlaw39_VoteOnce.j3 (3 * r + 1 + k + 1 + 1) text l true Y B (Vo.tr keys.length s.seen) (s.bad.length : Int) s.yes (j : Int) false ch keys q num den = some true := by
        unfold Vo.counts at hc
        rw [Bool.and_eq_true] at hc
        obtain ⟨hc1, hc2⟩ := hc
        obtain ⟨_, o1, o2, o3, o4, _⟩ := Vo.okv_range hc2
        have hns : ¬ l[j].f0 ∈ s.seen := by simpa using hc1
        obtain ⟨m, hm⟩ := Int.eq_ofNat_of_zero_le o3
        have hm2 : m < keys.length := by omega
        have hget : rdOf false (Vo.tr keys.length s.seen) (m : Int) = false := by
          show (Vo.tr keys.length s.seen).getD (Int.toNat (m : Int)) false = false
          rw [Int.toNat_natCast, List.getD_eq_getElem?_getD, List.getElem?_eq_getElem (by rw [Vo.tr_length]; exact hm2), Vo.tr_get _ _ _ hm2]
          rw [← hm]
          simpa using hns
        have htl := Vo.tr_length keys.length s.seen
        rw [pandectlaw39_VoteOnce.j3, if_neg (by simp), if_pos (by omega), if_pos (by omega), vrd_is l j hlt, hm, if_neg (by omega), if_neg (by rw [htl]; omega), if_pos (by omega), if_pos (by rw [htl]; omega), hget, if_neg (by simp), if_pos (by rw [o2]), o1]
        rw [pandectlaw39_VoteOnce.j4, if_neg (by simp), if_pos (by omega), if_pos (by rw [htl]; omega), Option.bind_some, if_pos (by omega), if_pos (by omega), vrd_is l j hlt, Int.toNat_natCast, Vo.tr_set _ _ _ hm2, ← hm]
        replace hi := hi k
        unfold Vo.step at hi
        rw [if_pos (by unfold Vo.counts; rw [Bool.and_eq_true]; exact ⟨hc1, hc2⟩)] at hi
        cases hy : l[j].f3 with
        | true =>
          rw [if_pos rfl, w1 j (by omega), show wrap64 (s.yes + 1) = s.yes + 1 from IntWalk.wrap64_in _ (by omega)]
          rw [if_pos hy] at hi
          exact hi
        | false =>
          rw [if_neg (by simp), w1 j (by omega)]
          rw [if_neg (by rw [hy]; simp)] at hi
          exact hi
      by_cases hb : (s.bad.length : Int) < (B.length : Int)
      · rw [if_pos hb, if_pos (by omega)]
        have : (rd B (s.bad.length : Int) == (j : Int)) = false := by
          rw [beq_eq_false_iff_ne]
          intro e
          apply hn2
          rw [List.getElem?_eq_getElem (by omega)]
          rw [← e]
          show some B[s.bad.length] = some (B.getD (Int.toNat (s.bad.length : Int)) 0)
          rw [Int.toNat_natCast, List.getD_eq_getElem?_getD, List.getElem?_eq_getElem (by omega)]; rfl
        rw [this]; exact hstep
      · rw [if_neg hb]; exact hstep
    · rw [if_neg hc] at hn2
      have hb : s.bad.length < B.length := (List.getElem?_eq_some_iff.1 hn2).1
      have hrd : (rd B (s.bad.length : Int) == (j : Int)) = true := by
        rw [beq_iff_eq]
        show B.getD (Int.toNat (s.bad.length : Int)) 0 = (j : Int)
        rw [Int.toNat_natCast, List.getD_eq_getElem?_getD, hn2]; rfl
      rw [if_pos (by omega), if_pos (by omega), hrd, pandectlaw39_VoteOnce.j3, if_pos rfl, w1 j (by omega)]
      replace hi := hi (k + 1)
      unfold Vo.step at hi
      rw [if_neg hc] at hi
      have hle : s.bad.length ≤ 1000 := by omega
      rw [w1 s.bad.length (by omega)]
      have e2 : (s.bad ++ [(j : Int)]).length = s.bad.length + 1 := by simp
      dsimp only at hi
      rw [e2] at hi
      exact hi

theorem law_once (ch : Int) (keys : List ByteArray) (q num den : Int) (text : ByteArray) (l : List Vo.V) : pandectlaw39_VoteOnce.f 10000 ch keys q num den text l = some true := by
  generalize hk0 : (10000 : Nat) = k
  have hk : 5000 ≤ k := by omega
  clear hk0
  obtain ⟨k, rfl⟩ : ∃ m, k = m + 1 + 1 := ⟨k - 2, by omega⟩
  unfold pandectlaw39_VoteOnce.f
  obtain ⟨b, hb, hb2⟩ := few_is ch keys q num den l (k + 1 + 1) (by omega)
  rw [head_is (k + 1 + 1) (by omega), Option.bind_some, hb, Option.bind_some]
  have hj : pandectlaw39_VoteOnce.j0 (k + 1 + 1) text l true true ch keys q num den = some true := by rw [pandectlaw39_VoteOnce.j0, if_pos rfl]
  cases b with
  | false => rw [if_neg (by simp), hj]
  | true =>
    obtain ⟨f1, f2, f3, f4⟩ := hb2 rfl
    rw [if_pos rfl]
    by_cases ht : (text.size : Int) > 100
    · rw [decide_eq_true ht, hj]
    · rw [decide_eq_false ht, pandectlaw39_VoteOnce.j0, if_neg (by simp), count_is (k + 1) (by omega) ch keys q num den text (by omega) l (by omega), Option.bind_some]
      dsimp only
      obtain ⟨i1, i2, i3⟩ := Vo.count_inv ch keys q num den text l
      have hle := Vo.seen_le (ok := Vo.okv ch keys q num den text) l keys.length (fun v hv => ⟨(Vo.okv_range hv).2.2.2.1, (Vo.okv_range hv).2.2.2.2.1⟩)
      have hle2 : (Vo.count ch keys q num den text l).yes + (Vo.count ch keys q num den text l).no ≤ (keys.length : Int) := hle
      rw [if_neg (by omega), if_neg (by omega), show wrap64 ((Vo.count ch keys q num den text l).yes + (Vo.count ch keys q num den text l).no) = (Vo.count ch keys q num den text l).yes + (Vo.count ch keys q num den text l).no from IntWalk.wrap64_in _ (by omega),
        show wrap64 ((Vo.count ch keys q num den text l).yes + (Vo.count ch keys q num den text l).no + ((Vo.count ch keys q num den text l).bad.length : Int)) = (Vo.count ch keys q num den text l).yes + (Vo.count ch keys q num den text l).no + ((Vo.count ch keys q num den text l).bad.length : Int) from IntWalk.wrap64_in _ (by omega), if_pos i3, decide_eq_false (by omega), pandectlaw39_VoteOnce.j1, if_neg (by simp), if_pos (by omega), if_pos (by omega), Int.toNat_natCast]
      have h := once_loop ch keys q num den text l (by omega) (by omega) l.length 0 (k - (3 * l.length + 1)) (by omega)
      rw [show 3 * l.length + 1 + (k - (3 * l.length + 1)) = k by omega] at h
      rw [← Vo.tr_nil]
      exact h
end Go.Proofs.YtoimnllcniefoaaDoor.P
