import Derived.Test.YtfhdknjccmcgdaaDoorKPx0
import Derived.Test.YtfhdknjccmcgdaaDoorKPx1
import Derived.Test.YtfhdknjccmcgdaaDoorKPx2
import Derived.Test.YtfhdknjccmcgdaaDoorKD
import Derived.Test.YtfhdknjccmcgdaaDoorKTa
import Derived.Test.YtfhdknjccmcgdaaDoorKFPx5
import Derived.Test.YtfhdknjccmcgdaaDoorTie
import Derived.ProofKit
import Derived.OpenShut
import Derived.ShutString
import Derived.LaidMore
import Derived.LaidSub
import Derived.Lay
import Derived.SevenTiedAt
import Derived.Stop.Joined
import Derived.SliceStrings
import Derived.Lib.SmallJoins
import Derived.Test.YtfhdknjccmcgdaaDoorKS0
import Derived.Test.YtfhdknjccmcgdaaDoorKSc
set_option linter.unusedVariables false
set_option linter.unusedSimpArgs false
/- What every row of the seat needs: the listed variables, the table that strconv.Itoa reads, a slice of strings as an argument. -/
namespace Go.Proofs.YtfhdknjccmcgdaaDoor.P
open Go.ChangeShapes Go.WideShapes Go.ChangeAt Go.RowKit
open Go.Proofs.YtfhdknjccmcgdaaDoor Go.Proofs.YtfhdknjccmcgdaaDoorW.PrintWords Go.Proofs.YtfhdknjccmcgdaaDoorW.PrintLast Go.Proofs.YtfhdknjccmcgdaaDoorW.PrintMore
set_option linter.unusedVariables false

theorem own : ownKnob Tryd.prog.godebug = none := by kernel_rfl
theorem laidOut : laidOutB Tryd.prog = true := by kernel_rfl
def laid : List (String × DataW Unit) := [("math/bits.deBruijn32tab", Rows.laid_math_bits_deBruijn32tab), ("math/bits.deBruijn64tab", Rows.laid_math_bits_deBruijn64tab), ("internal/strconv.uint64pow10", Rows.laid_internal_strconv_uint64pow10), ("unicode/utf8.acceptRanges", Rows.laid_unicode_utf8_acceptRanges), ("unicode/utf8.first", Rows.laid_unicode_utf8_first)]

theorem tabs_of_laid {W : World} (h : laidMetH Tryd.prog laid W) : Tabs W := by
  have h2 := h.filter (fun x => x.1 == "internal/strconv.uint64pow10")
  have e : laid.filter (fun x => x.1 == "internal/strconv.uint64pow10") = [("internal/strconv.uint64pow10", Lib.tabData .u64 Lib.pow10Tab)] := by kernel_rfl
  rw [e, MakeChecks.laidMetH_plain _ _ _ (by kernel_rfl)] at h2
  exact Lib.tabIs_of_head tabs_global (t := 124) (e := 63) (n := 20) (by kernel_rfl) Tryd.underlying124 Tryd.underlying63 (by kernel_rfl) (by kernel_rfl) h2

/-- The witness: a start in which the listed variables read as the row says. -/
theorem laid_met (os : Os) (args : Array Value) : laidMetH Tryd.prog laid ((World.laidAll Tryd.prog os laid).forCall (fun _ _ => 0) ⟨#[], args, []⟩).memory := by
  rw [MakeChecks.laidMetH_plain _ _ _ (by kernel_rfl)]
  exact laidMet_laidAll _ (by kernel_rfl) (by kernel_rfl)
theorem laid_shaped (os : Os) (args : Array Value) : ((World.laidAll Tryd.prog os laid).forCall (fun _ _ => 0) ⟨#[], args, []⟩).Shaped Tryd.prog :=
  World.shaped_of_ZipB (by kernel_rfl) (by kernel_rfl)

/-- A slice of strings that came in reads as a list. -/
theorem strings_in {H : Type} {enc : TypeId × Value → H} {W : World} {spare : Nat → Bool} {held : Bool} {fuel : Nat} {a : Option Addr} {n c : Nat} {x : DataW H × List MemPlace} (hf : DataW.trod enc Tryd.prog W 0 spare held fuel 27 [.slice a n c] = some x) :
    ∃ l : List ByteArray, l.length = n ∧ n ≤ c ∧ Kd.C Kd.string W a n l := by
  rcases open_strings Tryd.underlying27 Tryd.underlying9 (by kernel_rfl) hf with ⟨hcs, hx⟩ | ⟨x, len', cap', ss, hcs, _, hl, hm, hz, hx, hcell, _⟩
  · simp only [List.cons.injEq, Value.slice.injEq, and_true] at hcs
    obtain ⟨rfl, rfl, rfl⟩ := hcs
    exact ⟨[], rfl, Nat.le_refl _, Kd.C_of_reads (d := ByteArray.empty) (h1 := fun _ => rfl) ⟨rfl, by decide, fun hn => by simp at hn⟩⟩
  · simp only [List.cons.injEq, Value.slice.injEq, and_true] at hcs
    obtain ⟨rfl, rfl, rfl⟩ := hcs
    have hz' : n ≤ ss.length := by rw [hz]; split <;> omega
    have hlen : (ss.take n).length = n := by rw [List.length_take]; omega
    have hm' : c ≤ 9223372036854775807 := hm
    refine ⟨ss.take n, hlen, hl, Kd.C_of_reads (d := ByteArray.empty) (h1 := fun _ => rfl) ⟨hlen, by omega, fun hn => ⟨x, rfl, fun j hj => ?_⟩⟩⟩
    rw [hcell j (by omega)]
    simp only [List.getD_eq_getElem?_getD, List.getElem?_take_of_lt hj]
end Go.Proofs.YtfhdknjccmcgdaaDoor.P
/- The reference's digest, as the print has it, computes the plain digest. -/
namespace Go.Proofs.YtfhdknjccmcgdaaDoor.P
open Go.RowKit Go.Proofs.YtfhdknjccmcgdaaDoor Go.Proofs.YtfhdknjccmcgdaaDoorW.PrintWords Go.Proofs.YtfhdknjccmcgdaaDoorW.PrintLast Go.Proofs.YtfhdknjccmcgdaaDoorW.PrintMore
set_option linter.unusedVariables false
set_option linter.unusedSimpArgs false

theorem rd_nat (l : List ByteArray) (i : Nat) : rdOf ByteArray.empty l (i : Int) = l.getD i ByteArray.empty := rfl
theorem rd_lt (l : List ByteArray) (i : Nat) (h : i < l.length) : rdOf ByteArray.empty l (i : Int) = l[i] := by
  rw [rd_nat, List.getD_eq_getElem?_getD, List.getElem?_eq_getElem h]; rfl

end Go.Proofs.YtfhdknjccmcgdaaDoor.P
/- What the trees' printed functions answer; equal lists; two strings with one digest are found. By gen_sref.py out of the chapter of the trees. -/
namespace Go.Proofs.YtfhdknjccmcgdaaDoor.P
open Go.RowKit Go.Proofs.YtfhdknjccmcgdaaDoor Go.Proofs.YtfhdknjccmcgdaaDoorW.PrintWords Go.Proofs.YtfhdknjccmcgdaaDoorW.PrintLast Go.Proofs.YtfhdknjccmcgdaaDoorW.PrintMore
set_option linter.unusedVariables false
set_option linter.unusedSimpArgs false

/-- At most 20 strings of at most 100 bytes. -/
def Small (l : List ByteArray) : Prop := ∀ x ∈ l, x.size ≤ 100

theorem Small.take {l : List ByteArray} (h : Small l) (k : Nat) : Small (l.take k) := fun x hx => h x (List.mem_of_mem_take hx)

theorem Small.drop {l : List ByteArray} (h : Small l) (k : Nat) : Small (l.drop k) := fun x hx => h x (List.mem_of_mem_drop hx)

theorem Small.getD {l : List ByteArray} (h : Small l) (i : Nat) : (l.getD i ByteArray.empty).size ≤ 100 := by
  rw [List.getD_eq_getElem?_getD]
  rcases Nat.lt_or_ge i l.length with h1 | h1
  · rw [List.getElem?_eq_getElem h1]; exact h _ (List.getElem_mem h1)
  · rw [List.getElem?_eq_none h1]; decide

theorem Small.cons {x : ByteArray} {l : List ByteArray} (h1 : x.size ≤ 100) (h : Small l) : Small (x :: l) := fun y hy => by
  rcases List.mem_cons.1 hy with rfl | h2
  · exact h1
  · exact h y h2

theorem Small.nil : Small [] := fun y hy => by cases hy

theorem Small.append {l m : List ByteArray} (h1 : Small l) (h2 : Small m) : Small (l ++ m) := fun y hy => by
  rcases List.mem_append.1 hy with h | h
  · exact h1 y h
  · exact h2 y h

theorem Small.dropLast {l : List ByteArray} (h : Small l) : Small l.dropLast := fun x hx => h x ((List.dropLast_sublist l).subset hx)

theorem Small.last {l : List ByteArray} (h : Small l) : (Tr.last l).size ≤ 100 := by
  unfold Tr.last
  cases hl : l.getLast? with
  | none => decide
  | some x => exact h x (List.mem_of_getLast? hl)

theorem root_size (l : List ByteArray) : (Tr.root l).size = 16 := by
  have := Tr.isD_root l
  unfold Dg.isD at this
  rw [Bool.and_eq_true, beq_iff_eq] at this
  exact this.1

theorem isD_size {x : ByteArray} (h : Dg.isD x = true) : x.size = 16 := by
  unfold Dg.isD at h
  rw [Bool.and_eq_true, beq_iff_eq] at h
  exact h.1

theorem joined_small (l : List ByteArray) (h : Small l) : (Dg.joinedL l).length ≤ l.length * 122 := by
  induction l with
  | nil => simp [Dg.joinedL]
  | cons x l ih =>
    have h1 := Dg.piece_le x (by have := h x (by simp); omega)
    have h2 := h x (by simp)
    have h3 := ih fun y hy => h y (by simp [hy])
    simp only [Dg.joinedL, List.flatMap_cons, List.length_append, List.length_cons] at h3 ⊢
    omega

theorem dig_list3 (l : List ByteArray) (h3 : l.length ≤ 3) (h : Small l) : digest_List.f l = some (Dg.list l) := by
  have := joined_small l h
  unfold digest_List.f
  rw [if_pos ⟨by omega, by omega⟩]


theorem half_loop (n : Nat) (hn : n ≤ 1000000) : ∀ f c k : Nat, f < k → 1 ≤ c → c ≤ n → n ≤ c * 2 ^ f → tree_half.l0 k (n : Int) (c : Int) = some ((Tr.halfGo f c n : Nat) : Int) := by
  intro f
  induction f with
  | zero =>
    intro c k hk h1 h2 h3
    obtain ⟨k, rfl⟩ : ∃ k', k = k' + 1 := ⟨k - 1, by omega⟩
    have hw : wrap64 ((c : Int) * 2) = ((c * 2 : Nat) : Int) := by rw [IntWalk.wrap64_in _ (by omega)]; omega
    rw [tree_half.l0, hw, if_neg (by omega)]; rfl
  | succ f ih =>
    intro c k hk h1 h2 h3
    obtain ⟨k, rfl⟩ : ∃ k', k = k' + 1 := ⟨k - 1, by omega⟩
    have hw : wrap64 ((c : Int) * 2) = ((c * 2 : Nat) : Int) := by rw [IntWalk.wrap64_in _ (by omega)]; omega
    rw [tree_half.l0, hw]
    simp only [Tr.halfGo]
    by_cases h : c * 2 < n
    · rw [if_pos (by omega), if_pos h]
      exact ih (c * 2) k (by omega) (by omega) (by omega) (by rw [Nat.mul_assoc, ← Nat.pow_succ']; exact h3)
    · rw [if_neg (by omega), if_neg h]

theorem half_is (n : Nat) (h1 : 1 ≤ n) (hn : n ≤ 1000000) (k : Nat) (hk : 100 ≤ k) : tree_half.f k (n : Int) = some ((Tr.half n : Nat) : Int) :=
  half_loop n hn 64 1 k (by omega) (by omega) h1 (by omega)

theorem node_is (a b : ByteArray) (ha : a.size ≤ 100) (hb : b.size ≤ 100) : tree_node.f a b = some (Tr.node a b) := by
  unfold tree_node.f
  rw [dig_list3 _ (by simp) (.cons (by decide) (.cons ha (.cons hb .nil)))]
  rfl

theorem root_is (l : List ByteArray) : ∀ k : Nat, l.length ≤ 20 → Small l → 1400 + l.length ≤ k → tree_Root.f k l = some (Tr.root l) := by
  induction l using Tr.list_ind with
  | h l ih =>
    intro k h20 hs hk
    obtain ⟨k, rfl⟩ : ∃ k', k = k' + 1 := ⟨k - 1, by omega⟩
    by_cases h0 : l.length = 0
    · rw [tree_Root.f, if_pos (by omega), Tr.root_zero l h0, dig_list3 _ (by simp) (.cons (by decide) .nil)]
      rfl
    · by_cases h1 : l.length = 1
      · rw [tree_Root.f, if_neg (by omega), if_pos (by omega), if_pos (by omega), Tr.root_one l h1, show rdOf ByteArray.empty l 0 = l.getD 0 ByteArray.empty from rfl, dig_list3 _ (by simp) (.cons (by decide) (.cons (hs.getD 0) .nil))]
        rfl
      · obtain ⟨ia, ib⟩ := ih (by omega)
        have h2 := Tr.half_lt l.length (by omega)
        have h3 := Tr.half_pos l.length
        have hl := Tr.take_len l (by omega)
        have hr := Tr.drop_len l
        rw [tree_Root.f, if_neg (by omega), if_neg (by omega), half_is _ (by omega) (by omega) k (by omega), Option.bind_some, if_pos (by omega), if_pos (by omega)]
        simp only [Int.toNat_natCast]
        rw [ia k (by omega) (hs.take _) (by omega), Option.bind_some, ib k (by omega) (hs.drop _) (by omega), Option.bind_some, node_is _ _ (by rw [root_size]; omega) (by rw [root_size]; omega), Tr.root_node l (by omega)]
        rfl

theorem rev_loop : ∀ (n : Nat) (M : List ByteArray), M.length = n → ∀ (A B : List ByteArray) (k : Nat), A.length + M.length + B.length ≤ 1000000 → n < k →
    slices_Reverse_string_string.l0 k (A ++ M ++ B) (A.length : Int) ((A.length : Int) + M.length - 1) = some (A ++ M.reverse ++ B) := by
  intro n
  induction n using Nat.strongRecOn with
  | _ n ih =>
    intro M hM A B k hb hk
    obtain ⟨k, rfl⟩ : ∃ k', k = k' + 1 := ⟨k - 1, by omega⟩
    rcases M with _ | ⟨a, M⟩
    · rw [slices_Reverse_string_string.l0, if_neg (by simp only [List.length_nil]; omega)]; simp
    · rcases List.eq_nil_or_concat M with rfl | ⟨M', b, rfl⟩
      · rw [slices_Reverse_string_string.l0, if_neg (by simp only [List.length_cons, List.length_nil]; omega)]; simp
      · simp only [List.concat_eq_append] at hM hb ⊢
        simp only [List.length_cons, List.length_append, List.length_nil] at hM hb ⊢
        have hlen : (A ++ a :: (M' ++ [b]) ++ B).length = A.length + (M'.length + 2) + B.length := by simp; omega
        have hj : (A.length : Int) + ((M'.length + (0 + 1) + 1 : Nat) : Int) - 1 = ((A.length + M'.length + 1 : Nat) : Int) := by omega
        rw [hj, slices_Reverse_string_string.l0, if_pos (by omega), if_pos (by omega), if_pos (by omega), if_pos (by omega), if_pos (by omega)]
        have w1 : wrap64 ((A.length : Int) + 1) = ((A.length + 1 : Nat) : Int) := by rw [IntWalk.wrap64_in _ (by omega)]; omega
        have w2 : wrap64 (((A.length + M'.length + 1 : Nat) : Int) - 1) = ((A.length + M'.length : Nat) : Int) := by rw [IntWalk.wrap64_in _ (by omega)]; omega
        rw [w1, w2, rd_nat, rd_nat]
        simp only [Int.toNat_natCast]
        have q1 : A ++ a :: (M' ++ [b]) ++ B = (A ++ a :: M') ++ b :: B := by simp
        have q2 : (A ++ a :: M').length = A.length + M'.length + 1 := by simp; omega
        have g1 : (A ++ a :: (M' ++ [b]) ++ B).getD (A.length + M'.length + 1) ByteArray.empty = b := by
          rw [q1, ← q2, List.getD_eq_getElem?_getD, List.getElem?_append_right (Nat.le_refl _)]
          simp
        have g2 : (A ++ a :: (M' ++ [b]) ++ B).getD A.length ByteArray.empty = a := by
          rw [List.getD_eq_getElem?_getD]
          simp [List.getElem?_append]
        rw [g1, g2]
        have s1 : ((A ++ a :: (M' ++ [b]) ++ B).set A.length b).set (A.length + M'.length + 1) a = (A ++ [b]) ++ M' ++ ([a] ++ B) := by
          have q3 : (A ++ a :: (M' ++ [b]) ++ B).set A.length b = (A ++ b :: M') ++ b :: B := by
            rw [q1, List.append_assoc, List.set_append_right _ _ (Nat.le_refl _)]
            simp
          have q4 : (A ++ b :: M').length = A.length + M'.length + 1 := by simp; omega
          rw [q3, ← q4, List.set_append_right _ _ (Nat.le_refl _)]
          simp
        rw [s1]
        have e := ih M'.length (by omega) M' rfl (A ++ [b]) ([a] ++ B) k (by simp; omega) (by omega)
        rw [show ((A ++ [b]).length : Int) = ((A.length + 1 : Nat) : Int) by simp, show ((A.length + 1 : Nat) : Int) + (M'.length : Int) - 1 = ((A.length + M'.length : Nat) : Int) by omega] at e
        rw [e]
        simp

theorem rev_is (l : List ByteArray) (h : l.length ≤ 1000) (k : Nat) (hk : l.length < k) : slices_Reverse_string_string.f k l = some l.reverse := by
  unfold slices_Reverse_string_string.f
  have e := rev_loop l.length l rfl [] [] k (by simp; omega) hk
  have w : wrap64 ((l.length : Int) - 1) = (([] : List ByteArray).length : Int) + l.length - 1 := by rw [IntWalk.wrap64_in _ (by omega)]; simp
  rw [w]
  simp only [List.nil_append, List.append_nil] at e
  exact e


theorem path_loop (l : List ByteArray) : ∀ (i k : Nat) (acc : List ByteArray), l.length ≤ 20 → Small l → i < l.length → acc.length + l.length ≤ 100 → 1600 + l.length ≤ k →
    tree_Path.l0 k l (i : Int) acc = some (Tr.path l i ++ acc.reverse, 0) := by
  induction l using Tr.list_ind with
  | h l ih =>
    intro i k acc h20 hs hi ha hk
    obtain ⟨k, rfl⟩ : ∃ k', k = k' + 1 := ⟨k - 1, by omega⟩
    by_cases h1 : l.length ≤ 1
    · rw [tree_Path.l0, if_neg (by omega), rev_is acc (by omega) k (by omega), Tr.path_one l i h1]
      rfl
    · obtain ⟨ia, ib⟩ := ih (by omega)
      have h2 := Tr.half_lt l.length (by omega)
      have h3 := Tr.half_pos l.length
      have hl := Tr.take_len l (by omega)
      have hr := Tr.drop_len l
      rw [tree_Path.l0, if_pos (by omega), half_is _ (by omega) (by omega) k (by omega), Option.bind_some]
      simp only [Int.toNat_natCast]
      by_cases hh : i < Tr.half l.length
      · rw [if_pos (by omega), if_pos (by omega), if_pos (by omega), root_is _ k (by omega) (hs.drop _) (by omega), Option.bind_some, if_pos (by omega), ia i k _ (by omega) (hs.take _) (by omega) (by rw [List.length_append, List.length_singleton]; omega) (by omega), Tr.path_left l i (by omega) hh]
        simp
      · have w : wrap64 ((i : Int) - ((Tr.half l.length : Nat) : Int)) = ((i - Tr.half l.length : Nat) : Int) := by rw [IntWalk.wrap64_in _ (by omega)]; omega
        rw [if_neg (by omega), if_pos (by omega), if_pos (by omega), root_is _ k (by omega) (hs.take _) (by omega), Option.bind_some, if_pos (by omega), w, ib _ k _ (by omega) (hs.drop _) (by omega) (by rw [List.length_append, List.length_singleton]; omega) (by omega), Tr.path_right l i (by omega) hh]
        simp

theorem path_is (l : List ByteArray) (i : Nat) (h20 : l.length ≤ 20) (hs : Small l) (hi : i < l.length) (k : Nat) (hk : 1700 ≤ k) : tree_Path.f k l (i : Int) = some (Tr.path l i, 0) := by
  obtain ⟨k, rfl⟩ : ∃ k', k = k' + 1 := ⟨k - 1, by omega⟩
  unfold tree_Path.f
  rw [if_neg (by omega), decide_eq_false (by omega), tree_Path.j0, if_neg (by decide), path_loop l i k [] h20 hs hi (by simp; omega) (by omega)]
  simp

theorem check_is (r : ByteArray) (n i : Int) (x : ByteArray) (p : List ByteArray) (hp : p.length ≤ 1000) (hx : x.size ≤ 1000) : tree_Check.f r n i x p = some (Tr.check r n i x p) := by
  unfold tree_Check.f; rw [if_pos ⟨by omega, by omega⟩]

end Go.Proofs.YtfhdknjccmcgdaaDoor.P
/- What the functions of the package seal answer, as the print has them: keys, public keys, seals, and when a seal is accepted. -/
namespace Go.Proofs.YtfhdknjccmcgdaaDoor.Sl
open Go Go.Proofs.YtfhdknjccmcgdaaDoor Go.Proofs.YtfhdknjccmcgdaaDoor.Tr
/-- When a seal is accepted. -/
def verify (pub m : ByteArray) (idx : Int) (sig p : List ByteArray) : Bool :=
  if sig.length ≠ 18 ∨ p.length > 8 ∨ proper sig = false ∨ proper p = false ∨ idx < 0 ∨ (2 : Int) ^ p.length ≤ idx then false
  else check pub (2 ^ p.length) idx (Dg.list (fins m sig)) p

theorem two_nat (n : Nat) : ((2 : Int) ^ n) = ((2 ^ n : Nat) : Int) := by simp

theorem verify_true {pub m : ByteArray} {idx : Int} {sig p : List ByteArray} (h : verify pub m idx sig p = true) :
    ∃ i : Nat, idx = i ∧ sig.length = 18 ∧ p.length ≤ 8 ∧ proper sig = true ∧ proper p = true ∧ i < 2 ^ p.length ∧ up (2 ^ p.length) i (leaf (Dg.list (fins m sig))) p = pub := by
  unfold verify at h
  split at h
  · cases h
  · rename_i hg
    have g1 : sig.length = 18 := Classical.byContradiction fun e => hg (.inl e)
    have g2 : p.length ≤ 8 := Classical.byContradiction fun e => hg (.inr (.inl (by omega)))
    have g3 : proper sig = true := by cases hp : proper sig with | true => rfl | false => exact absurd (.inr (.inr (.inl hp))) hg
    have g4 : proper p = true := by cases hp : proper p with | true => rfl | false => exact absurd (.inr (.inr (.inr (.inl hp)))) hg
    have g5 : 0 ≤ idx := Classical.byContradiction fun e => hg (.inr (.inr (.inr (.inr (.inl (by omega))))))
    have g6 : idx < (2 : Int) ^ p.length := Classical.byContradiction fun e => hg (.inr (.inr (.inr (.inr (.inr (by omega))))))
    obtain ⟨i, rfl⟩ := Int.eq_ofNat_of_zero_le g5
    rw [two_nat] at g6 h
    have g7 : i < 2 ^ p.length := by omega
    have h8 : 2 ^ p.length ≤ 256 := by
      have := Nat.pow_le_pow_right (show 0 < 2 by decide) g2
      exact this
    rw [check_eq _ _ _ _ _ (by omega) g7 g4, Bool.and_eq_true] at h
    exact ⟨i, rfl, g1, g2, g3, g4, g7, of_decide_eq_true h.2⟩

theorem verify_own (secret : ByteArray) (h : Nat) (hh : h ≤ 8) (i : Nat) (hi : i < 2 ^ h) (m : ByteArray) : verify (root (keys secret h)) m i (sigOf secret i m) (path (keys secret h) i) = true := by
  have hl : (path (keys secret h) i).length = h := by rw [path_length, keys_length]; exact len_two h (by omega) i hi
  have h8 : 2 ^ h ≤ 256 := Nat.pow_le_pow_right (show 0 < 2 by decide) hh
  unfold verify
  rw [if_neg, hl, two_nat]
  · rw [check_eq _ _ _ _ _ (by omega) hi (path_proper _ _), fins_sigOf, hl, len_two h (by omega) i hi]
    have := up_path (keys secret h) i (by rw [keys_length]; exact hi)
    rw [keys_length, keys_get _ _ _ hi] at this
    unfold key at this
    rw [this]
    simp
  · rw [hl, two_nat, sigOf_length, sigOf_isD, path_proper]
    generalize 2 ^ h = N at hi
    simp
    omega

theorem verify_long (pub m : ByteArray) (idx : Int) (sig p : List ByteArray) (h : (2 : Int) ^ p.length ≤ idx) : verify pub m idx sig p = false := by
  unfold verify
  rw [if_pos (.inr (.inr (.inr (.inr (.inr h)))))]
theorem verify_neg (pub m : ByteArray) (idx : Int) (sig p : List ByteArray) (h : idx < 0) : verify pub m idx sig p = false := by
  unfold verify
  rw [if_pos (.inr (.inr (.inr (.inr (.inl h)))))]
theorem verify_few (pub m : ByteArray) (idx : Int) (sig p : List ByteArray) (h : sig.length ≠ 18) : verify pub m idx sig p = false := by
  unfold verify
  rw [if_pos (.inl h)]
theorem up_isD (n i : Nat) (d : ByteArray) (hd : Dg.isD d = true) (p : List ByteArray) : Dg.isD (up n i d p) = true := by
  by_cases hn : n ≤ 1
  · rw [up_one _ _ _ _ hn]; exact hd
  · by_cases hi : i < half n
    · rw [up_left _ _ _ _ (by omega) hi]; exact Dg.isD_list _
    · rw [up_right _ _ _ _ (by omega) hi]; exact Dg.isD_list _
theorem verify_pub {pub m : ByteArray} {idx : Int} {sig p : List ByteArray} (h : verify pub m idx sig p = true) : Dg.isD pub = true := by
  obtain ⟨i, _, _, _, _, _, _, rfl⟩ := verify_true h
  exact up_isD _ _ _ (Dg.isD_list _) _
end Go.Proofs.YtfhdknjccmcgdaaDoor.Sl

namespace Go.Proofs.YtfhdknjccmcgdaaDoor.P
open Go.RowKit Go.Proofs.YtfhdknjccmcgdaaDoor Go.Proofs.YtfhdknjccmcgdaaDoorW.PrintWords Go.Proofs.YtfhdknjccmcgdaaDoorW.PrintLast Go.Proofs.YtfhdknjccmcgdaaDoorW.PrintMore
set_option linter.unusedVariables false
set_option linter.unusedSimpArgs false

theorem w1 (i : Nat) (h : i ≤ 1000000000000) : wrap64 ((i : Int) + 1) = ((i + 1 : Nat) : Int) := by rw [IntWalk.wrap64_in _ (by omega)]; omega

/-! ### chains, keys -/

theorem chain_loop (n : Nat) (hn : n ≤ 1000) (k : Nat) : ∀ (r i : Nat) (s : ByteArray), i + r = n → s.size ≤ 9223372036854775807 → digest_Chain.l0 (r + 1 + k) s (n : Int) (i : Int) = some (Sl.chain r s) := by
  intro r
  induction r with
  | zero =>
    intro i s hi hs
    rw [show 0 + 1 + k = k + 1 by omega, digest_Chain.l0, if_neg (by omega)]
    rfl
  | succ r ih =>
    intro i s hi hs
    rw [show r + 1 + 1 + k = (r + 1 + k) + 1 by omega, digest_Chain.l0, if_pos (by omega)]
    unfold digest_Sum.f
    rw [if_pos hs, Option.bind_some, w1 i (by omega), ih (i + 1) _ (by omega) (by rw [Dg.sum_size]; decide)]
    rfl

theorem chain_is (s : ByteArray) (n : Nat) (hn : n ≤ 1000) (hs : s.size ≤ 9223372036854775807) (k : Nat) (hk : n < k) : digest_Chain.f k s (n : Int) = some (Sl.chain n s) := by
  obtain ⟨k', rfl⟩ : ∃ k', k = n + 1 + k' := ⟨k - (n + 1), by omega⟩
  unfold digest_Chain.f
  have hm : mx 0 (mn (n : Int) 1000) = (n : Int) := by unfold mx mn; omega
  rw [hm]
  exact chain_loop n hn k' n 0 s (by omega) hs

theorem itoa_is (n : Nat) (h : n ≤ 9223372036854775807) : strconv_Itoa.f (n : Int) = some (Sl.dec n) := by
  unfold strconv_Itoa.f
  rw [if_pos (by omega)]
  rfl

theorem piece_len (s : ByteArray) (h : s.size ≤ 9223372036854775807) : (Dg.piece s).length ≤ s.size + 22 := Dg.piece_le s h

theorem dec_size (n : Nat) (h : n ≤ 9223372036854775807) : (Sl.dec n).size ≤ 21 := by
  have := Lib.itoa_length_le (n : Int) (by omega) (by omega)
  exact this

theorem of_is (l : List ByteArray) (h1 : l.length ≤ 1000) (h2 : ∀ x ∈ l, x.size ≤ 1000) : seal_of.f l = some (Dg.list l) := by
  unfold seal_of.f digest_List.f
  have hj : (Dg.joinedL l).length ≤ l.length * 1022 := by
    clear h1
    induction l with
    | nil => exact Nat.zero_le _
    | cons x l ih =>
      have := ih (fun y hy => h2 y (List.mem_cons_of_mem _ hy))
      have h3 := h2 x List.mem_cons_self
      have h4 := piece_len x (by omega)
      simp only [Dg.joinedL, List.flatMap_cons, List.length_append, List.length_cons] at this ⊢
      omega
  rw [if_pos ⟨by omega, by omega⟩]
  rfl

theorem start_is (secret : ByteArray) (hs : secret.size ≤ 300) (i k : Nat) (hi : i ≤ 1000000) (hk : k ≤ 1000000) : seal_start.f secret (i : Int) (k : Int) = some (Sl.start secret i k) := by
  unfold seal_start.f
  rw [itoa_is i (by omega), Option.bind_some, itoa_is k (by omega), Option.bind_some, of_is _ (by simp) (by
    intro x hx
    have d1 := dec_size i (by omega)
    have d2 := dec_size k (by omega)
    simp only [List.mem_cons, List.not_mem_nil, or_false] at hx
    rcases hx with rfl | rfl | rfl <;> omega)]
  rfl

theorem start_size (secret : ByteArray) (i k : Nat) : (Sl.start secret i k).size = 16 := Dg.list_size _

theorem ends_take (secret : ByteArray) (i j : Nat) (h : j < 18) : (Sl.ends secret i).take (j + 1) = (Sl.ends secret i).take j ++ [Sl.chain 15 (Sl.start secret i j)] := by
  rw [List.take_add_one, List.getElem?_eq_getElem (by rw [Sl.ends_length]; exact h)]
  simp [Sl.ends]

theorem key_loop (secret : ByteArray) (hs : secret.size ≤ 300) (i : Nat) (hi : i ≤ 1000000) (k : Nat) (hk : 20 ≤ k) : ∀ (r j : Nat), j + r = 18 → seal_key.l0 (r + 1 + k) secret (i : Int) ((Sl.ends secret i).take j) (j : Int) = some (Sl.key secret i) := by
  intro r
  induction r with
  | zero =>
    intro j hj
    have : j = 18 := by omega
    subst this
    rw [show 0 + 1 + k = k + 1 by omega, seal_key.l0, if_neg (by omega), List.take_of_length_le (by rw [Sl.ends_length]; omega), of_is _ (by rw [Sl.ends_length]; omega) (by
      intro x hx
      obtain ⟨q, _, rfl⟩ := List.mem_map.1 hx
      rw [Sl.chain_size _ _ (start_size ..)]; omega)]
    rfl
  | succ r ih =>
    intro j hj
    rw [show r + 1 + 1 + k = (r + 1 + k) + 1 by omega, seal_key.l0, if_pos (by omega), start_is secret hs i j hi (by omega), Option.bind_some]
    have hc := chain_is (Sl.start secret i j) 15 (by omega) (by rw [start_size]; omega) (r + 1 + k) (by omega)
    rw [show ((15 : Nat) : Int) = 15 from rfl] at hc
    rw [hc, Option.bind_some, if_pos (by rw [List.length_take]; omega), w1 j (by omega), ← ends_take secret i j (by omega)]
    exact ih (j + 1) (by omega)

theorem key_is (secret : ByteArray) (hs : secret.size ≤ 300) (i : Nat) (hi : i ≤ 1000000) (k : Nat) (hk : 100 ≤ k) : seal_key.f k secret (i : Int) = some (Sl.key secret i) := by
  obtain ⟨k', rfl⟩ : ∃ k', k = 18 + 1 + k' := ⟨k - 19, by omega⟩
  exact key_loop secret hs i hi k' (by omega) 18 0 (by omega)

theorem key_size (secret : ByteArray) (i : Nat) : (Sl.key secret i).size = 16 := Dg.list_size _

theorem keys_loop (secret : ByteArray) (hs : secret.size ≤ 300) (N : Nat) (hN : N ≤ 256) (k : Nat) (hk : 100 ≤ k) : ∀ (r i : Nat), i + r = N →
    seal_keys.l0 (r + 1 + k) secret (((List.range N).map (Sl.key secret)).take i ++ List.replicate r (⟨#[]⟩ : ByteArray)) (N : Int) (i : Int) = some ((List.range N).map (Sl.key secret)) := by
  intro r
  induction r with
  | zero =>
    intro i hi
    rw [show 0 + 1 + k = k + 1 by omega, seal_keys.l0, if_neg (by omega), List.replicate_zero, List.append_nil, List.take_of_length_le (by simp; omega)]
  | succ r ih =>
    intro i hi
    have hlen : (((List.range N).map (Sl.key secret)).take i).length = i := by simp; omega
    rw [show r + 1 + 1 + k = (r + 1 + k) + 1 by omega, seal_keys.l0, if_pos (by omega), key_is secret hs i (by omega) _ (by omega), Option.bind_some, if_pos (by omega), if_pos (by rw [List.length_append, hlen, List.length_replicate]; omega), w1 i (by omega), Int.toNat_natCast]
    have e : ((((List.range N).map (Sl.key secret)).take i ++ List.replicate (r + 1) (⟨#[]⟩ : ByteArray)).set i (Sl.key secret i)) = ((List.range N).map (Sl.key secret)).take (i + 1) ++ List.replicate r (⟨#[]⟩ : ByteArray) := by
      rw [List.set_append_right _ _ (by omega), hlen, Nat.sub_self, List.replicate_succ, List.set_cons_zero, List.take_add_one, List.getElem?_eq_getElem (by simp; omega)]
      simp
    rw [e]
    exact ih (i + 1) (by omega)

theorem shl_two (h : Nat) (hh : h ≤ 8) : shl .i64 1 (h : Int) = ((2 ^ h : Nat) : Int) := by
  unfold shl
  have h1 := pw8 h hh
  rw [Int.toNat_natCast, Nat.min_eq_left (by show h ≤ 64; omega), Int.one_mul, i64_w, IntWalk.wrap64_in _ (by omega), Sl.two_nat]

theorem keys_is (secret : ByteArray) (hs : secret.size ≤ 300) (h : Nat) (hh : h ≤ 8) (k : Nat) (hk : 500 ≤ k) : seal_keys.f k secret (h : Int) = some (Sl.keys secret h) := by
  have h8 : 2 ^ h ≤ 256 := Nat.pow_le_pow_right (show 0 < 2 by decide) hh
  unfold seal_keys.f Sl.keys
  rw [shl_two h hh]
  generalize 2 ^ h = N at h8 ⊢
  rw [if_pos (by omega), if_pos (by omega), Int.toNat_natCast, if_pos (by omega), Option.bind_some, List.length_replicate]
  obtain ⟨k', rfl⟩ : ∃ k', k = N + 1 + k' := ⟨k - (N + 1), by omega⟩
  have := keys_loop secret hs N h8 k' (by omega) N 0 (by omega)
  rw [List.take_zero, List.nil_append] at this
  exact this

theorem keys_small (secret : ByteArray) (h : Nat) : Small (Sl.keys secret h) := by
  intro x hx
  obtain ⟨i, _, rfl⟩ := List.mem_map.1 hx
  rw [key_size]; omega

theorem public_is (secret : ByteArray) (hs : secret.size ≤ 300) (h : Nat) (hh : h ≤ 4) (k : Nat) (hk : 2000 ≤ k) : seal_Public.f k secret (h : Int) = some (Tr.root (Sl.keys secret h), 0) := by
  have h4 : 2 ^ h ≤ 16 := Nat.pow_le_pow_right (show 0 < 2 by decide) hh
  obtain ⟨k, rfl⟩ : ∃ k', k = k' + 1 := ⟨k - 1, by omega⟩
  unfold seal_Public.f
  rw [if_neg (by omega), decide_eq_false (by omega), seal_Public.j0, if_neg (by simp), keys_is secret hs h (by omega) k (by omega), Option.bind_some, root_is _ k (by rw [Sl.keys_length]; omega) (keys_small secret h) (by rw [Sl.keys_length]; omega)]
  rfl

theorem public_bad (secret : ByteArray) (h : Int) (hh : h < 0 ∨ h > 8) (k : Nat) (hk : 1 ≤ k) : seal_Public.f k secret h = some (⟨#[]⟩, 1) := by
  obtain ⟨k, rfl⟩ : ∃ k', k = k' + 1 := ⟨k - 1, by omega⟩
  unfold seal_Public.f
  split
  · rw [seal_Public.j0, if_pos rfl]
  · rw [decide_eq_true (by omega), seal_Public.j0, if_pos rfl]

/-! ### Sign, Verify -/

theorem listF_all (f : Fin 18 → Option ByteArray) (g : Fin 18 → ByteArray) (hg : ∀ x, f x = some (g x)) : ∀ l, listF f l = some (l.map g) := by
  intro l
  induction l with
  | nil => rfl
  | cons x l ih => rw [listF, hg x, Option.bind_some, ih, Option.bind_some]; rfl

theorem fin_map (g : Nat → ByteArray) : (List.finRange 18).map (fun x => g x.1) = (List.range 18).map g := by
  apply List.ext_getElem
  · simp
  · intro i h1 h2
    simp

theorem sign_is (secret m : ByteArray) (hs : secret.size ≤ 300) (hm : m.size ≤ 300) (h : Nat) (hh : h ≤ 4) (i : Nat) (hi : i < 2 ^ h) (k : Nat) (hk : 2000 ≤ k) :
    seal_Sign.f k secret (h : Int) (i : Int) m = some ((i : Int), Sl.sigOf secret i m, Tr.path (Sl.keys secret h) i, 0) := by
  have h4 : 2 ^ h ≤ 16 := Nat.pow_le_pow_right (show 0 < 2 by decide) hh
  unfold seal_Sign.f
  rw [if_neg (by rw [Int.toNat_natCast, Sl.two_nat]; omega), if_pos (by omega)]
  rw [listF_all _ (fun x => Sl.chain (Sl.dg m x.1) (Sl.start secret i x.1)) (by
    intro x
    have h18 := x.2
    have hd := Sl.dg_le m x.1
    unfold sig1
    rw [start_is secret hs i x.1 (by omega) (by omega), Option.bind_some, chain_is _ _ (by omega) (by rw [start_size]; omega) k (by omega)])]
  rw [Option.bind_some, keys_is secret hs h (by omega) k (by omega), Option.bind_some, path_is _ i (by rw [Sl.keys_length]; omega) (keys_small secret h) (by rw [Sl.keys_length]; exact hi) k (by omega), Option.bind_some, fin_map (fun x => Sl.chain (Sl.dg m x) (Sl.start secret i x))]
  rfl

theorem sign_bad_is (secret m : ByteArray) (h i : Int) (hb : h < 0 ∨ h > 8 ∨ i < 0 ∨ i ≥ 2 ^ h.toNat) (k : Nat) : seal_Sign.f k secret h i m = some (0, [], [], 1) := by
  unfold seal_Sign.f
  rw [if_pos hb]

theorem isD_sz {x : ByteArray} {l : List ByteArray} (h : Tr.proper l = true) (hx : x ∈ l) : x.size = 16 := isD_size (List.all_eq_true.1 h x hx)

theorem verify_is (pub m : ByteArray) (hm : m.size ≤ 300) (idx : Int) (sig p : List ByteArray) (k : Nat) (hk : 100 ≤ k) : seal_Verify.f k pub m idx sig p = some (Sl.verify pub m idx sig p) := by
  unfold seal_Verify.f Sl.verify
  split
  · rfl
  · rename_i hg
    have g1 : sig.length = 18 := Classical.byContradiction fun e => hg (.inl e)
    have g2 : p.length ≤ 8 := Classical.byContradiction fun e => hg (.inr (.inl (by omega)))
    have g3 : Tr.proper sig = true := by cases hp : Tr.proper sig with | true => rfl | false => exact absurd (.inr (.inr (.inl hp))) hg
    rw [if_pos (by omega)]
    rw [listF_all _ (fun x => Sl.chain (15 - Sl.dg m x.1) (sig.getD x.1 ByteArray.empty)) (by
      intro x
      have h18 := x.2
      have hd := Sl.dg_le m x.1
      have hz : (sig.getD x.1 ByteArray.empty).size = 16 := by
        rw [List.getD_eq_getElem?_getD, List.getElem?_eq_getElem (by omega)]
        exact isD_sz g3 (List.getElem_mem _)
      unfold ver1
      have e : (15 - (Sl.dg m x.1 : Int)) = ((15 - Sl.dg m x.1 : Nat) : Int) := by omega
      rw [e, chain_is _ _ (by omega) (by rw [hz]; omega) k (by omega)])]
    rw [Option.bind_some, fin_map (fun x => Sl.chain (15 - Sl.dg m x) (sig.getD x ByteArray.empty))]
    have hf : (List.range 18).map (fun x => Sl.chain (15 - Sl.dg m x) (sig.getD x ByteArray.empty)) = Sl.fins m sig := rfl
    rw [hf, of_is _ (by rw [Sl.fins_length]; omega) (by
      intro x hx
      obtain ⟨q, hq, rfl⟩ := List.mem_map.1 hx
      have hq2 : q < 18 := List.mem_range.1 hq
      rw [Sl.chain_size _ _ (by
        rw [List.getD_eq_getElem?_getD, List.getElem?_eq_getElem (by omega)]
        exact isD_sz g3 (List.getElem_mem _))]
      omega), Option.bind_some, check_is _ _ _ _ _ (by omega) (by rw [Dg.list_size]; omega)]

/-! ### the head -/

theorem head_is (k : Nat) (hk : 3000 ≤ k) : pandectlaw03_head.f k = some true := by
  unfold pandectlaw03_head.f
  have hs : wSecret.size ≤ 300 := by decide
  have hm : wMessage.size ≤ 300 := by decide
  have p2 := public_is wSecret hs 2 (by decide) k (by omega)
  have p9 := public_bad wSecret 9 (by decide) k (by omega)
  have s3 := sign_is wSecret wMessage hs hm 2 (by decide) 3 (by decide) k (by omega)
  have s4 := sign_bad_is wSecret wMessage 2 4 (by decide) k
  rw [show ((2 : Nat) : Int) = 2 from rfl] at p2 s3
  rw [show ((3 : Nat) : Int) = 3 from rfl] at s3
  rw [p2, Option.bind_some, p9, Option.bind_some, s3, Option.bind_some, s4, Option.bind_some]
  have hl : (Tr.path (Sl.keys wSecret 2) 3).length = 2 := by rw [Tr.path_length, Sl.keys_length]; exact Sl.len_two 2 (by decide) 3 (by decide)
  unfold head1
  rw [if_pos ⟨rfl, rfl, rfl, rfl, hl, rfl, by rw [Sl.sigOf_length]; decide⟩]
  unfold head2
  have v1 := Sl.verify_own wSecret 2 (by decide) 3 (by decide) wMessage
  rw [show ((3 : Nat) : Int) = 3 from rfl] at v1
  have v2 := Sl.verify_long (Tr.root (Sl.keys wSecret 2)) wMessage 3 (Sl.sigOf wSecret 3 wMessage) ((Tr.path (Sl.keys wSecret 2) 3).take 1) (by rw [List.length_take, hl]; decide)
  have v3 := Sl.verify_few (Tr.root (Sl.keys wSecret 2)) wMessage 3 ((Sl.sigOf wSecret 3 wMessage).drop 1) (Tr.path (Sl.keys wSecret 2) 3) (by rw [List.length_drop, Sl.sigOf_length]; decide)
  have v4 : Sl.verify ⟨#[]⟩ wMessage 3 (Sl.sigOf wSecret 3 wMessage) (Tr.path (Sl.keys wSecret 2) 3) = false := by
    cases hv : Sl.verify ⟨#[]⟩ wMessage 3 (Sl.sigOf wSecret 3 wMessage) (Tr.path (Sl.keys wSecret 2) 3) with
    | false => rfl
    | true =>
      have := isD_size (Sl.verify_pub hv)
      cases this
  rw [verify_is _ _ hm _ _ _ k (by omega), v1, Option.bind_some, verify_is _ _ hm _ _ _ k (by omega), v2, Option.bind_some, verify_is _ _ hm _ _ _ k (by omega), v3, Option.bind_some, verify_is _ _ hm _ _ _ k (by omega), v4, Option.bind_some]
  rfl
end Go.Proofs.YtfhdknjccmcgdaaDoor.P
/- What the reference's functions answer, as the print has them: short texts, few texts, digits, the texts of a key and of a check. -/
namespace Go.Proofs.YtfhdknjccmcgdaaDoor.P
open Go.RowKit Go.Proofs.YtfhdknjccmcgdaaDoor Go.Proofs.YtfhdknjccmcgdaaDoorW.PrintWords Go.Proofs.YtfhdknjccmcgdaaDoorW.PrintLast Go.Proofs.YtfhdknjccmcgdaaDoorW.PrintMore
set_option linter.unusedVariables false
set_option linter.unusedSimpArgs false

/-! ### short texts, few texts, equal seals -/

theorem short_loop (l : List ByteArray) (hN : l.length ≤ 100) (k : Nat) : ∀ (r i : Nat), i + r = l.length → (∀ x ∈ l.take i, x.size ≤ 300) → ∃ b, pandectlaw03_short.l0 (r + 1 + k) l (i : Int) = some b ∧ (b = true → ∀ x ∈ l, x.size ≤ 300) := by
  intro r
  induction r with
  | zero =>
    intro i hi ht
    rw [show i = l.length by omega, List.take_length] at ht
    exact ⟨true, by rw [show 0 + 1 + k = k + 1 by omega, pandectlaw03_short.l0, if_neg (by omega)], fun _ => ht⟩
  | succ r ih =>
    intro i hi ht
    rw [show r + 1 + 1 + k = (r + 1 + k) + 1 by omega, pandectlaw03_short.l0, if_pos (by omega), if_pos (by omega), rd_lt l i (by omega), w1 i (by omega)]
    by_cases he : (l[i]'(by omega)).size ≤ 300
    · rw [if_neg (by omega)]
      refine ih (i + 1) (by omega) fun x hx => ?_
      rw [List.take_succ_eq_append_getElem (by omega)] at hx
      rcases List.mem_append.1 hx with h | h
      · exact ht x h
      · rw [List.mem_singleton.1 h]; exact he
    · exact ⟨false, by rw [if_pos (by omega)], fun h => by cases h⟩

theorem short_is (l : List ByteArray) (hN : l.length ≤ 100) (k : Nat) (hk : 200 ≤ k) : ∃ b, pandectlaw03_short.f k l = some b ∧ (b = true → ∀ x ∈ l, x.size ≤ 300) := by
  obtain ⟨k', rfl⟩ : ∃ k', k = l.length + 1 + k' := ⟨k - (l.length + 1), by omega⟩
  exact short_loop l hN k' l.length 0 (by omega) (by simp)

theorem take30 (l : List ByteArray) (i : Nat) (h1 : ∀ x ∈ l.take i, x.size ≤ 100) (h2 : l.length ≤ i ∨ 30 ≤ i) : l.length ≤ 30 → Small l := by
  intro h x hx
  rw [List.take_of_length_le (by omega)] at h1
  exact h1 x hx

theorem few_l1 (idx : Int) (a b : List ByteArray) (ha : ∀ i, (∀ x ∈ a.take i, x.size ≤ 100) → True) (hA : a.length ≤ 30 → Small a) (k : Nat) : ∀ (r i : Nat), i + r = 31 → i ≤ 30 → (∀ x ∈ b.take i, x.size ≤ 100) →
    ∃ c, pandectref03_Few.l1 (2 * r + 4 + k) (i : Int) idx a b = some c ∧ (c = true → a.length ≤ 30 ∧ b.length ≤ 30 ∧ Small a ∧ Small b) := by
  intro r
  induction r with
  | zero => intro i hi h30 _; omega
  | succ r ih =>
    intro i hi h30 ht
    have fin : (b.length ≤ i ∨ 30 ≤ i) → ∀ q, ∃ c, pandectref03_Few.j3 (q + 1) (i : Int) false idx a b = some c ∧ (c = true → a.length ≤ 30 ∧ b.length ≤ 30 ∧ Small a ∧ Small b) := by
      intro hend q
      have hB := take30 b i ht hend
      rw [pandectref03_Few.j3, if_neg (by simp)]
      by_cases h1 : a.length ≤ 30
      · rw [if_pos (by omega)]
        refine ⟨_, rfl, fun h => ?_⟩
        have h2 : b.length ≤ 30 := by have := of_decide_eq_true h; omega
        exact ⟨h1, h2, hA h1, hB h2⟩
      · rw [if_neg (by omega)]
        exact ⟨false, rfl, fun h => by cases h⟩
    rw [show 2 * (r + 1) + 4 + k = (2 * r + 4 + k + 1) + 1 by omega, pandectref03_Few.l1]
    by_cases hlt : i < b.length
    · rw [if_pos (by omega)]
      by_cases hi30 : i < 30
      · rw [decide_eq_true (by omega), pandectref03_Few.j3, if_pos rfl, if_pos (by omega), if_pos (by omega), rd_lt b i hlt, w1 i (by omega)]
        by_cases he : (b[i]'hlt).size ≤ 100
        · rw [if_neg (by omega)]
          refine ih (i + 1) (by omega) (by omega) fun x hx => ?_
          rw [List.take_succ_eq_append_getElem hlt] at hx
          rcases List.mem_append.1 hx with h | h
          · exact ht x h
          · rw [List.mem_singleton.1 h]; exact he
        · exact ⟨false, by rw [if_pos (by omega)], fun h => by cases h⟩
      · rw [decide_eq_false (by omega)]
        exact fin (.inr (by omega)) _
    · rw [if_neg (by omega)]
      exact fin (.inl (by omega)) _

theorem few_l0 (idx : Int) (a b : List ByteArray) (k : Nat) : ∀ (r i : Nat), i + r = 31 → i ≤ 30 → (∀ x ∈ a.take i, x.size ≤ 100) →
    ∃ c, pandectref03_Few.l0 (2 * r + 80 + k) (i : Int) idx a b = some c ∧ (c = true → a.length ≤ 30 ∧ b.length ≤ 30 ∧ Small a ∧ Small b) := by
  intro r
  induction r with
  | zero => intro i hi h30 _; omega
  | succ r ih =>
    intro i hi h30 ht
    have fin : (a.length ≤ i ∨ 30 ≤ i) → ∀ q, 70 ≤ q → ∃ c, pandectref03_Few.j1 (q + 1) (i : Int) false idx a b = some c ∧ (c = true → a.length ≤ 30 ∧ b.length ≤ 30 ∧ Small a ∧ Small b) := by
      intro hend q hq
      have hA := take30 a i ht hend
      rw [pandectref03_Few.j1, if_neg (by simp)]
      have := few_l1 idx a b (fun _ _ => trivial) hA (q - 66) 31 0 (by omega) (by omega) (by simp)
      rw [show 2 * 31 + 4 + (q - 66) = q by omega] at this
      exact this
    rw [show 2 * (r + 1) + 80 + k = (2 * r + 80 + k + 1) + 1 by omega, pandectref03_Few.l0]
    by_cases hlt : i < a.length
    · rw [if_pos (by omega)]
      by_cases hi30 : i < 30
      · rw [decide_eq_true (by omega), pandectref03_Few.j1, if_pos rfl, if_pos (by omega), if_pos (by omega), rd_lt a i hlt, w1 i (by omega)]
        by_cases he : (a[i]'hlt).size ≤ 100
        · rw [if_neg (by omega)]
          refine ih (i + 1) (by omega) (by omega) fun x hx => ?_
          rw [List.take_succ_eq_append_getElem hlt] at hx
          rcases List.mem_append.1 hx with h | h
          · exact ht x h
          · rw [List.mem_singleton.1 h]; exact he
        · exact ⟨false, by rw [if_pos (by omega)], fun h => by cases h⟩
      · rw [decide_eq_false (by omega)]
        exact fin (.inr (by omega)) _ (by omega)
    · rw [if_neg (by omega)]
      exact fin (.inl (by omega)) _ (by omega)

theorem few3_is (idx : Int) (a b : List ByteArray) (k : Nat) (hk : 200 ≤ k) : ∃ c, pandectref03_Few.f k idx a b = some c ∧ (c = true → a.length ≤ 30 ∧ b.length ≤ 30 ∧ Small a ∧ Small b) := by
  have := few_l0 idx a b (k - 142) 31 0 (by omega) (by omega) (by simp)
  rw [show 2 * 31 + 80 + (k - 142) = k by omega] at this
  exact this

/-! ### chains of texts, nodes, powers -/

/-! ### digits -/

end Go.Proofs.YtfhdknjccmcgdaaDoor.P
/- Numbers of the laws of the seals. -/
namespace Go.Proofs.YtfhdknjccmcgdaaDoor.P
open Go.RowKit Go.Proofs.YtfhdknjccmcgdaaDoor Go.Proofs.YtfhdknjccmcgdaaDoorW.PrintWords Go.Proofs.YtfhdknjccmcgdaaDoorW.PrintLast Go.Proofs.YtfhdknjccmcgdaaDoorW.PrintMore
set_option linter.unusedVariables false
set_option linter.unusedSimpArgs false

theorem some_bind {α β : Type} (a : α) (f : α → Option β) : (some a).bind f = f a := rfl

end Go.Proofs.YtfhdknjccmcgdaaDoor.P
