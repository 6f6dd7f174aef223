import Derived.Test.YtoimnllcniefoaaDoorKPx0
import Derived.Test.YtoimnllcniefoaaDoorKPx1
import Derived.Test.YtoimnllcniefoaaDoorKPx2
import Derived.Test.YtoimnllcniefoaaDoorKPx3
import Derived.Test.YtoimnllcniefoaaDoorKPx4
import Derived.Test.YtoimnllcniefoaaDoorKPx6
import Derived.Test.YtoimnllcniefoaaDoorKRPx7
import Derived.Test.YtoimnllcniefoaaDoorKD
import Derived.Test.YtoimnllcniefoaaDoorKTa
import Derived.Test.YtoimnllcniefoaaDoorKVa
import Derived.Test.YtoimnllcniefoaaDoorKVb
import Derived.Test.YtoimnllcniefoaaDoorKS0
import Derived.Test.YtoimnllcniefoaaDoorKSc
set_option linter.unusedVariables false
set_option linter.unusedSimpArgs false
/- The reference's digest, as the print has it, computes the plain digest. -/
namespace Go.Proofs.YtoimnllcniefoaaDoor.P
open Go.RowKit Go.Proofs.YtoimnllcniefoaaDoor Go.Proofs.YtoimnllcniefoaaDoorW.PrintWords Go.Proofs.YtoimnllcniefoaaDoorW.PrintLast Go.Proofs.YtoimnllcniefoaaDoorW.PrintMore
set_option linter.unusedVariables false
set_option linter.unusedSimpArgs false

theorem rd_nat (l : List ByteArray) (i : Nat) : rdOf ByteArray.empty l (i : Int) = l.getD i ByteArray.empty := rfl
theorem rd_lt (l : List ByteArray) (i : Nat) (h : i < l.length) : rdOf ByteArray.empty l (i : Int) = l[i] := by
  rw [rd_nat, List.getD_eq_getElem?_getD, List.getElem?_eq_getElem h]; rfl

end Go.Proofs.YtoimnllcniefoaaDoor.P
/- What the trees' printed functions answer, the reference's too; equal lists. By gen_mref.py. -/
namespace Go.Proofs.YtoimnllcniefoaaDoor.P
open Go.RowKit Go.Proofs.YtoimnllcniefoaaDoor Go.Proofs.YtoimnllcniefoaaDoorW.PrintWords Go.Proofs.YtoimnllcniefoaaDoorW.PrintLast Go.Proofs.YtoimnllcniefoaaDoorW.PrintMore
set_option linter.unusedVariables false
set_option linter.unusedSimpArgs false

/-- At most 20 strings of at most 100 bytes. -/
def Small (l : List ByteArray) : Prop := ∀ x ∈ l, x.size ≤ 100

theorem Small.take {l : List ByteArray} (h : Small l) (k : Nat) : Small (l.take k) := fun x hx => h x (List.mem_of_mem_take hx)

theorem Small.drop {l : List ByteArray} (h : Small l) (k : Nat) : Small (l.drop k) := fun x hx => h x (List.mem_of_mem_drop hx)

theorem Small.getD {l : List ByteArray} (h : Small l) (i : Nat) : (l.getD i ByteArray.empty).size ≤ 100 := by
  rw [List.getD_eq_getElem?_getD]
  rcases Nat.lt_or_ge i l.length with h1 | h1
  · rw [List.getElem?_eq_getElem h1]; exact h _ (List.getElem_mem h1)
  · rw [List.getElem?_eq_none h1]; decide

theorem Small.cons {x : ByteArray} {l : List ByteArray} (h1 : x.size ≤ 100) (h : Small l) : Small (x :: l) := fun y hy => by
  rcases List.mem_cons.1 hy with rfl | h2
  · exact h1
  · exact h y h2

theorem Small.nil : Small [] := fun y hy => by cases hy

theorem Small.append {l m : List ByteArray} (h1 : Small l) (h2 : Small m) : Small (l ++ m) := fun y hy => by
  rcases List.mem_append.1 hy with h | h
  · exact h1 y h
  · exact h2 y h

theorem Small.dropLast {l : List ByteArray} (h : Small l) : Small l.dropLast := fun x hx => h x ((List.dropLast_sublist l).subset hx)

theorem Small.last {l : List ByteArray} (h : Small l) : (Tr.last l).size ≤ 100 := by
  unfold Tr.last
  cases hl : l.getLast? with
  | none => decide
  | some x => exact h x (List.mem_of_getLast? hl)

theorem root_size (l : List ByteArray) : (Tr.root l).size = 16 := by
  have := Tr.isD_root l
  unfold Dg.isD at this
  rw [Bool.and_eq_true, beq_iff_eq] at this
  exact this.1

theorem isD_size {x : ByteArray} (h : Dg.isD x = true) : x.size = 16 := by
  unfold Dg.isD at h
  rw [Bool.and_eq_true, beq_iff_eq] at h
  exact h.1

theorem joined_small (l : List ByteArray) (h : Small l) : (Dg.joinedL l).length ≤ l.length * 122 := by
  induction l with
  | nil => simp [Dg.joinedL]
  | cons x l ih =>
    have h1 := Dg.piece_le x (by have := h x (by simp); omega)
    have h2 := h x (by simp)
    have h3 := ih fun y hy => h y (by simp [hy])
    simp only [Dg.joinedL, List.flatMap_cons, List.length_append, List.length_cons] at h3 ⊢
    omega

theorem dig_list3 (l : List ByteArray) (h3 : l.length ≤ 3) (h : Small l) : digest_List.f l = some (Dg.list l) := by
  have := joined_small l h
  unfold digest_List.f
  rw [if_pos ⟨by omega, by omega⟩]

theorem half_loop (n : Nat) (hn : n ≤ 1000000) : ∀ f c k : Nat, f < k → 1 ≤ c → c ≤ n → n ≤ c * 2 ^ f → tree_half.l0 k (n : Int) (c : Int) = some ((Tr.halfGo f c n : Nat) : Int) := by
  intro f
  induction f with
  | zero =>
    intro c k hk h1 h2 h3
    obtain ⟨k, rfl⟩ : ∃ k', k = k' + 1 := ⟨k - 1, by omega⟩
    have hw : wrap64 ((c : Int) * 2) = ((c * 2 : Nat) : Int) := by rw [IntWalk.wrap64_in _ (by omega)]; omega
    rw [tree_half.l0, hw, if_neg (by omega)]; rfl
  | succ f ih =>
    intro c k hk h1 h2 h3
    obtain ⟨k, rfl⟩ : ∃ k', k = k' + 1 := ⟨k - 1, by omega⟩
    have hw : wrap64 ((c : Int) * 2) = ((c * 2 : Nat) : Int) := by rw [IntWalk.wrap64_in _ (by omega)]; omega
    rw [tree_half.l0, hw]
    simp only [Tr.halfGo]
    by_cases h : c * 2 < n
    · rw [if_pos (by omega), if_pos h]
      exact ih (c * 2) k (by omega) (by omega) (by omega) (by rw [Nat.mul_assoc, ← Nat.pow_succ']; exact h3)
    · rw [if_neg (by omega), if_neg h]

theorem half_is (n : Nat) (h1 : 1 ≤ n) (hn : n ≤ 1000000) (k : Nat) (hk : 100 ≤ k) : tree_half.f k (n : Int) = some ((Tr.half n : Nat) : Int) :=
  half_loop n hn 64 1 k (by omega) (by omega) h1 (by omega)

theorem node_is (a b : ByteArray) (ha : a.size ≤ 100) (hb : b.size ≤ 100) : tree_node.f a b = some (Tr.node a b) := by
  unfold tree_node.f
  rw [dig_list3 _ (by simp) (.cons (by decide) (.cons ha (.cons hb .nil)))]
  rfl

theorem root_is (l : List ByteArray) : ∀ k : Nat, l.length ≤ 20 → Small l → 1400 + l.length ≤ k → tree_Root.f k l = some (Tr.root l) := by
  induction l using Tr.list_ind with
  | h l ih =>
    intro k h20 hs hk
    obtain ⟨k, rfl⟩ : ∃ k', k = k' + 1 := ⟨k - 1, by omega⟩
    by_cases h0 : l.length = 0
    · rw [tree_Root.f, if_pos (by omega), Tr.root_zero l h0, dig_list3 _ (by simp) (.cons (by decide) .nil)]
      rfl
    · by_cases h1 : l.length = 1
      · rw [tree_Root.f, if_neg (by omega), if_pos (by omega), if_pos (by omega), Tr.root_one l h1, show rdOf ByteArray.empty l 0 = l.getD 0 ByteArray.empty from rfl, dig_list3 _ (by simp) (.cons (by decide) (.cons (hs.getD 0) .nil))]
        rfl
      · obtain ⟨ia, ib⟩ := ih (by omega)
        have h2 := Tr.half_lt l.length (by omega)
        have h3 := Tr.half_pos l.length
        have hl := Tr.take_len l (by omega)
        have hr := Tr.drop_len l
        rw [tree_Root.f, if_neg (by omega), if_neg (by omega), half_is _ (by omega) (by omega) k (by omega), Option.bind_some, if_pos (by omega), if_pos (by omega)]
        simp only [Int.toNat_natCast]
        rw [ia k (by omega) (hs.take _) (by omega), Option.bind_some, ib k (by omega) (hs.drop _) (by omega), Option.bind_some, node_is _ _ (by rw [root_size]; omega) (by rw [root_size]; omega), Tr.root_node l (by omega)]
        rfl

theorem rev_loop : ∀ (n : Nat) (M : List ByteArray), M.length = n → ∀ (A B : List ByteArray) (k : Nat), A.length + M.length + B.length ≤ 1000000 → n < k →
    slices_Reverse_string_string.l0 k (A ++ M ++ B) (A.length : Int) ((A.length : Int) + M.length - 1) = some (A ++ M.reverse ++ B) := by
  intro n
  induction n using Nat.strongRecOn with
  | _ n ih =>
    intro M hM A B k hb hk
    obtain ⟨k, rfl⟩ : ∃ k', k = k' + 1 := ⟨k - 1, by omega⟩
    rcases M with _ | ⟨a, M⟩
    · rw [slices_Reverse_string_string.l0, if_neg (by simp only [List.length_nil]; omega)]; simp
    · rcases List.eq_nil_or_concat M with rfl | ⟨M', b, rfl⟩
      · rw [slices_Reverse_string_string.l0, if_neg (by simp only [List.length_cons, List.length_nil]; omega)]; simp
      · simp only [List.concat_eq_append] at hM hb ⊢
        simp only [List.length_cons, List.length_append, List.length_nil] at hM hb ⊢
        have hlen : (A ++ a :: (M' ++ [b]) ++ B).length = A.length + (M'.length + 2) + B.length := by simp; omega
        have hj : (A.length : Int) + ((M'.length + (0 + 1) + 1 : Nat) : Int) - 1 = ((A.length + M'.length + 1 : Nat) : Int) := by omega
        rw [hj, slices_Reverse_string_string.l0, if_pos (by omega), if_pos (by omega), if_pos (by omega), if_pos (by omega), if_pos (by omega)]
        have w1 : wrap64 ((A.length : Int) + 1) = ((A.length + 1 : Nat) : Int) := by rw [IntWalk.wrap64_in _ (by omega)]; omega
        have w2 : wrap64 (((A.length + M'.length + 1 : Nat) : Int) - 1) = ((A.length + M'.length : Nat) : Int) := by rw [IntWalk.wrap64_in _ (by omega)]; omega
        rw [w1, w2, rd_nat, rd_nat]
        simp only [Int.toNat_natCast]
        have q1 : A ++ a :: (M' ++ [b]) ++ B = (A ++ a :: M') ++ b :: B := by simp
        have q2 : (A ++ a :: M').length = A.length + M'.length + 1 := by simp; omega
        have g1 : (A ++ a :: (M' ++ [b]) ++ B).getD (A.length + M'.length + 1) ByteArray.empty = b := by
          rw [q1, ← q2, List.getD_eq_getElem?_getD, List.getElem?_append_right (Nat.le_refl _)]
          simp
        have g2 : (A ++ a :: (M' ++ [b]) ++ B).getD A.length ByteArray.empty = a := by
          rw [List.getD_eq_getElem?_getD]
          simp [List.getElem?_append]
        rw [g1, g2]
        have s1 : ((A ++ a :: (M' ++ [b]) ++ B).set A.length b).set (A.length + M'.length + 1) a = (A ++ [b]) ++ M' ++ ([a] ++ B) := by
          have q3 : (A ++ a :: (M' ++ [b]) ++ B).set A.length b = (A ++ b :: M') ++ b :: B := by
            rw [q1, List.append_assoc, List.set_append_right _ _ (Nat.le_refl _)]
            simp
          have q4 : (A ++ b :: M').length = A.length + M'.length + 1 := by simp; omega
          rw [q3, ← q4, List.set_append_right _ _ (Nat.le_refl _)]
          simp
        rw [s1]
        have e := ih M'.length (by omega) M' rfl (A ++ [b]) ([a] ++ B) k (by simp; omega) (by omega)
        rw [show ((A ++ [b]).length : Int) = ((A.length + 1 : Nat) : Int) by simp, show ((A.length + 1 : Nat) : Int) + (M'.length : Int) - 1 = ((A.length + M'.length : Nat) : Int) by omega] at e
        rw [e]
        simp

theorem rev_is (l : List ByteArray) (h : l.length ≤ 1000) (k : Nat) (hk : l.length < k) : slices_Reverse_string_string.f k l = some l.reverse := by
  unfold slices_Reverse_string_string.f
  have e := rev_loop l.length l rfl [] [] k (by simp; omega) hk
  have w : wrap64 ((l.length : Int) - 1) = (([] : List ByteArray).length : Int) + l.length - 1 := by rw [IntWalk.wrap64_in _ (by omega)]; simp
  rw [w]
  simp only [List.nil_append, List.append_nil] at e
  exact e

theorem path_loop (l : List ByteArray) : ∀ (i k : Nat) (acc : List ByteArray), l.length ≤ 20 → Small l → i < l.length → acc.length + l.length ≤ 100 → 1600 + l.length ≤ k →
    tree_Path.l0 k l (i : Int) acc = some (Tr.path l i ++ acc.reverse, 0) := by
  induction l using Tr.list_ind with
  | h l ih =>
    intro i k acc h20 hs hi ha hk
    obtain ⟨k, rfl⟩ : ∃ k', k = k' + 1 := ⟨k - 1, by omega⟩
    by_cases h1 : l.length ≤ 1
    · rw [tree_Path.l0, if_neg (by omega), rev_is acc (by omega) k (by omega), Tr.path_one l i h1]
      rfl
    · obtain ⟨ia, ib⟩ := ih (by omega)
      have h2 := Tr.half_lt l.length (by omega)
      have h3 := Tr.half_pos l.length
      have hl := Tr.take_len l (by omega)
      have hr := Tr.drop_len l
      rw [tree_Path.l0, if_pos (by omega), half_is _ (by omega) (by omega) k (by omega), Option.bind_some]
      simp only [Int.toNat_natCast]
      by_cases hh : i < Tr.half l.length
      · rw [if_pos (by omega), if_pos (by omega), if_pos (by omega), root_is _ k (by omega) (hs.drop _) (by omega), Option.bind_some, if_pos (by omega), ia i k _ (by omega) (hs.take _) (by omega) (by rw [List.length_append, List.length_singleton]; omega) (by omega), Tr.path_left l i (by omega) hh]
        simp
      · have w : wrap64 ((i : Int) - ((Tr.half l.length : Nat) : Int)) = ((i - Tr.half l.length : Nat) : Int) := by rw [IntWalk.wrap64_in _ (by omega)]; omega
        rw [if_neg (by omega), if_pos (by omega), if_pos (by omega), root_is _ k (by omega) (hs.take _) (by omega), Option.bind_some, if_pos (by omega), w, ib _ k _ (by omega) (hs.drop _) (by omega) (by rw [List.length_append, List.length_singleton]; omega) (by omega), Tr.path_right l i (by omega) hh]
        simp

theorem path_is (l : List ByteArray) (i : Nat) (h20 : l.length ≤ 20) (hs : Small l) (hi : i < l.length) (k : Nat) (hk : 1700 ≤ k) : tree_Path.f k l (i : Int) = some (Tr.path l i, 0) := by
  obtain ⟨k, rfl⟩ : ∃ k', k = k' + 1 := ⟨k - 1, by omega⟩
  unfold tree_Path.f
  rw [if_neg (by omega), decide_eq_false (by omega), tree_Path.j0, if_neg (by decide), path_loop l i k [] h20 hs hi (by simp; omega) (by omega)]
  simp

theorem check_is (r : ByteArray) (n i : Int) (x : ByteArray) (p : List ByteArray) (hp : p.length ≤ 1000) (hx : x.size ≤ 1000) : tree_Check.f r n i x p = some (Tr.check r n i x p) := by
  unfold tree_Check.f; rw [if_pos ⟨by omega, by omega⟩]

end Go.Proofs.YtoimnllcniefoaaDoor.P
/- What the functions of the package seal answer, as the print has them: keys, public keys, seals, and when a seal is accepted. -/
namespace Go.Proofs.YtoimnllcniefoaaDoor.Sl
open Go Go.Proofs.YtoimnllcniefoaaDoor Go.Proofs.YtoimnllcniefoaaDoor.Tr
/-- When a seal is accepted. -/
def verify (pub m : ByteArray) (idx : Int) (sig p : List ByteArray) : Bool :=
  if sig.length ≠ 18 ∨ p.length > 8 ∨ proper sig = false ∨ proper p = false ∨ idx < 0 ∨ (2 : Int) ^ p.length ≤ idx then false
  else check pub (2 ^ p.length) idx (Dg.list (fins m sig)) p

theorem two_nat (n : Nat) : ((2 : Int) ^ n) = ((2 ^ n : Nat) : Int) := by simp

theorem verify_true {pub m : ByteArray} {idx : Int} {sig p : List ByteArray} (h : verify pub m idx sig p = true) :
    ∃ i : Nat, idx = i ∧ sig.length = 18 ∧ p.length ≤ 8 ∧ proper sig = true ∧ proper p = true ∧ i < 2 ^ p.length ∧ up (2 ^ p.length) i (leaf (Dg.list (fins m sig))) p = pub := by
  unfold verify at h
  split at h
  · cases h
  · rename_i hg
    have g1 : sig.length = 18 := Classical.byContradiction fun e => hg (.inl e)
    have g2 : p.length ≤ 8 := Classical.byContradiction fun e => hg (.inr (.inl (by omega)))
    have g3 : proper sig = true := by cases hp : proper sig with | true => rfl | false => exact absurd (.inr (.inr (.inl hp))) hg
    have g4 : proper p = true := by cases hp : proper p with | true => rfl | false => exact absurd (.inr (.inr (.inr (.inl hp)))) hg
    have g5 : 0 ≤ idx := Classical.byContradiction fun e => hg (.inr (.inr (.inr (.inr (.inl (by omega))))))
    have g6 : idx < (2 : Int) ^ p.length := Classical.byContradiction fun e => hg (.inr (.inr (.inr (.inr (.inr (by omega))))))
    obtain ⟨i, rfl⟩ := Int.eq_ofNat_of_zero_le g5
    rw [two_nat] at g6 h
    have g7 : i < 2 ^ p.length := by omega
    have h8 : 2 ^ p.length ≤ 256 := by
      have := Nat.pow_le_pow_right (show 0 < 2 by decide) g2
      exact this
    rw [check_eq _ _ _ _ _ (by omega) g7 g4, Bool.and_eq_true] at h
    exact ⟨i, rfl, g1, g2, g3, g4, g7, of_decide_eq_true h.2⟩

theorem verify_own (secret : ByteArray) (h : Nat) (hh : h ≤ 8) (i : Nat) (hi : i < 2 ^ h) (m : ByteArray) : verify (root (keys secret h)) m i (sigOf secret i m) (path (keys secret h) i) = true := by
  have hl : (path (keys secret h) i).length = h := by rw [path_length, keys_length]; exact len_two h (by omega) i hi
  have h8 : 2 ^ h ≤ 256 := Nat.pow_le_pow_right (show 0 < 2 by decide) hh
  unfold verify
  rw [if_neg, hl, two_nat]
  · rw [check_eq _ _ _ _ _ (by omega) hi (path_proper _ _), fins_sigOf, hl, len_two h (by omega) i hi]
    have := up_path (keys secret h) i (by rw [keys_length]; exact hi)
    rw [keys_length, keys_get _ _ _ hi] at this
    unfold key at this
    rw [this]
    simp
  · rw [hl, two_nat, sigOf_length, sigOf_isD, path_proper]
    generalize 2 ^ h = N at hi
    simp
    omega

end Go.Proofs.YtoimnllcniefoaaDoor.Sl

namespace Go.Proofs.YtoimnllcniefoaaDoor.P
open Go.RowKit Go.Proofs.YtoimnllcniefoaaDoor Go.Proofs.YtoimnllcniefoaaDoorW.PrintWords Go.Proofs.YtoimnllcniefoaaDoorW.PrintLast Go.Proofs.YtoimnllcniefoaaDoorW.PrintMore
set_option linter.unusedVariables false
set_option linter.unusedSimpArgs false

theorem w1 (i : Nat) (h : i ≤ 1000000000000) : wrap64 ((i : Int) + 1) = ((i + 1 : Nat) : Int) := by rw [IntWalk.wrap64_in _ (by omega)]; omega

/-! ### chains, keys -/

theorem chain_loop (n : Nat) (hn : n ≤ 1000) (k : Nat) : ∀ (r i : Nat) (s : ByteArray), i + r = n → s.size ≤ 9223372036854775807 → digest_Chain.l0 (r + 1 + k) s (n : Int) (i : Int) = some (Sl.chain r s) := by
  intro r
  induction r with
  | zero =>
    intro i s hi hs
    rw [show 0 + 1 + k = k + 1 by omega, digest_Chain.l0, if_neg (by omega)]
    rfl
  | succ r ih =>
    intro i s hi hs
    rw [show r + 1 + 1 + k = (r + 1 + k) + 1 by omega, digest_Chain.l0, if_pos (by omega)]
    unfold digest_Sum.f
    rw [if_pos hs, Option.bind_some, w1 i (by omega), ih (i + 1) _ (by omega) (by rw [Dg.sum_size]; decide)]
    rfl

theorem chain_is (s : ByteArray) (n : Nat) (hn : n ≤ 1000) (hs : s.size ≤ 9223372036854775807) (k : Nat) (hk : n < k) : digest_Chain.f k s (n : Int) = some (Sl.chain n s) := by
  obtain ⟨k', rfl⟩ : ∃ k', k = n + 1 + k' := ⟨k - (n + 1), by omega⟩
  unfold digest_Chain.f
  have hm : mx 0 (mn (n : Int) 1000) = (n : Int) := by unfold mx mn; omega
  rw [hm]
  exact chain_loop n hn k' n 0 s (by omega) hs

theorem itoa_is (n : Nat) (h : n ≤ 9223372036854775807) : strconv_Itoa.f (n : Int) = some (Sl.dec n) := by
  unfold strconv_Itoa.f
  rw [if_pos (by omega)]
  rfl

theorem piece_len (s : ByteArray) (h : s.size ≤ 9223372036854775807) : (Dg.piece s).length ≤ s.size + 22 := Dg.piece_le s h

theorem dec_size (n : Nat) (h : n ≤ 9223372036854775807) : (Sl.dec n).size ≤ 21 := by
  have := Lib.itoa_length_le (n : Int) (by omega) (by omega)
  exact this

theorem of_is (l : List ByteArray) (h1 : l.length ≤ 1000) (h2 : ∀ x ∈ l, x.size ≤ 1000) : seal_of.f l = some (Dg.list l) := by
  unfold seal_of.f digest_List.f
  have hj : (Dg.joinedL l).length ≤ l.length * 1022 := by
    clear h1
    induction l with
    | nil => exact Nat.zero_le _
    | cons x l ih =>
      have := ih (fun y hy => h2 y (List.mem_cons_of_mem _ hy))
      have h3 := h2 x List.mem_cons_self
      have h4 := piece_len x (by omega)
      simp only [Dg.joinedL, List.flatMap_cons, List.length_append, List.length_cons] at this ⊢
      omega
  rw [if_pos ⟨by omega, by omega⟩]
  rfl

theorem start_is (secret : ByteArray) (hs : secret.size ≤ 300) (i k : Nat) (hi : i ≤ 1000000) (hk : k ≤ 1000000) : seal_start.f secret (i : Int) (k : Int) = some (Sl.start secret i k) := by
  unfold seal_start.f
  rw [itoa_is i (by omega), Option.bind_some, itoa_is k (by omega), Option.bind_some, of_is _ (by simp) (by
    intro x hx
    have d1 := dec_size i (by omega)
    have d2 := dec_size k (by omega)
    simp only [List.mem_cons, List.not_mem_nil, or_false] at hx
    rcases hx with rfl | rfl | rfl <;> omega)]
  rfl

theorem start_size (secret : ByteArray) (i k : Nat) : (Sl.start secret i k).size = 16 := Dg.list_size _

theorem ends_take (secret : ByteArray) (i j : Nat) (h : j < 18) : (Sl.ends secret i).take (j + 1) = (Sl.ends secret i).take j ++ [Sl.chain 15 (Sl.start secret i j)] := by
  rw [List.take_add_one, List.getElem?_eq_getElem (by rw [Sl.ends_length]; exact h)]
  simp [Sl.ends]

theorem key_loop (secret : ByteArray) (hs : secret.size ≤ 300) (i : Nat) (hi : i ≤ 1000000) (k : Nat) (hk : 20 ≤ k) : ∀ (r j : Nat), j + r = 18 → seal_key.l0 (r + 1 + k) secret (i : Int) ((Sl.ends secret i).take j) (j : Int) = some (Sl.key secret i) := by
  intro r
  induction r with
  | zero =>
    intro j hj
    have : j = 18 := by omega
    subst this
    rw [show 0 + 1 + k = k + 1 by omega, seal_key.l0, if_neg (by omega), List.take_of_length_le (by rw [Sl.ends_length]; omega), of_is _ (by rw [Sl.ends_length]; omega) (by
      intro x hx
      obtain ⟨q, _, rfl⟩ := List.mem_map.1 hx
      rw [Sl.chain_size _ _ (start_size ..)]; omega)]
    rfl
  | succ r ih =>
    intro j hj
    rw [show r + 1 + 1 + k = (r + 1 + k) + 1 by omega, seal_key.l0, if_pos (by omega), start_is secret hs i j hi (by omega), Option.bind_some]
    have hc := chain_is (Sl.start secret i j) 15 (by omega) (by rw [start_size]; omega) (r + 1 + k) (by omega)
    rw [show ((15 : Nat) : Int) = 15 from rfl] at hc
    rw [hc, Option.bind_some, if_pos (by rw [List.length_take]; omega), w1 j (by omega), ← ends_take secret i j (by omega)]
    exact ih (j + 1) (by omega)

theorem key_is (secret : ByteArray) (hs : secret.size ≤ 300) (i : Nat) (hi : i ≤ 1000000) (k : Nat) (hk : 100 ≤ k) : seal_key.f k secret (i : Int) = some (Sl.key secret i) := by
  obtain ⟨k', rfl⟩ : ∃ k', k = 18 + 1 + k' := ⟨k - 19, by omega⟩
  exact key_loop secret hs i hi k' (by omega) 18 0 (by omega)

theorem key_size (secret : ByteArray) (i : Nat) : (Sl.key secret i).size = 16 := Dg.list_size _

theorem keys_loop (secret : ByteArray) (hs : secret.size ≤ 300) (N : Nat) (hN : N ≤ 256) (k : Nat) (hk : 100 ≤ k) : ∀ (r i : Nat), i + r = N →
    seal_keys.l0 (r + 1 + k) secret (((List.range N).map (Sl.key secret)).take i ++ List.replicate r (⟨#[]⟩ : ByteArray)) (N : Int) (i : Int) = some ((List.range N).map (Sl.key secret)) := by
  intro r
  induction r with
  | zero =>
    intro i hi
    rw [show 0 + 1 + k = k + 1 by omega, seal_keys.l0, if_neg (by omega), List.replicate_zero, List.append_nil, List.take_of_length_le (by simp; omega)]
  | succ r ih =>
    intro i hi
    have hlen : (((List.range N).map (Sl.key secret)).take i).length = i := by simp; omega
    rw [show r + 1 + 1 + k = (r + 1 + k) + 1 by omega, seal_keys.l0, if_pos (by omega), key_is secret hs i (by omega) _ (by omega), Option.bind_some, if_pos (by omega), if_pos (by rw [List.length_append, hlen, List.length_replicate]; omega), w1 i (by omega), Int.toNat_natCast]
    have e : ((((List.range N).map (Sl.key secret)).take i ++ List.replicate (r + 1) (⟨#[]⟩ : ByteArray)).set i (Sl.key secret i)) = ((List.range N).map (Sl.key secret)).take (i + 1) ++ List.replicate r (⟨#[]⟩ : ByteArray) := by
      rw [List.set_append_right _ _ (by omega), hlen, Nat.sub_self, List.replicate_succ, List.set_cons_zero, List.take_add_one, List.getElem?_eq_getElem (by simp; omega)]
      simp
    rw [e]
    exact ih (i + 1) (by omega)

theorem shl_two (h : Nat) (hh : h ≤ 8) : shl .i64 1 (h : Int) = ((2 ^ h : Nat) : Int) := by
  unfold shl
  have h1 := pw8 h hh
  rw [Int.toNat_natCast, Nat.min_eq_left (by show h ≤ 64; omega), Int.one_mul, i64_w, IntWalk.wrap64_in _ (by omega), Sl.two_nat]

theorem keys_is (secret : ByteArray) (hs : secret.size ≤ 300) (h : Nat) (hh : h ≤ 8) (k : Nat) (hk : 500 ≤ k) : seal_keys.f k secret (h : Int) = some (Sl.keys secret h) := by
  have h8 : 2 ^ h ≤ 256 := Nat.pow_le_pow_right (show 0 < 2 by decide) hh
  unfold seal_keys.f Sl.keys
  rw [shl_two h hh]
  generalize 2 ^ h = N at h8 ⊢
  rw [if_pos (by omega), if_pos (by omega), Int.toNat_natCast, if_pos (by omega), Option.bind_some, List.length_replicate]
  obtain ⟨k', rfl⟩ : ∃ k', k = N + 1 + k' := ⟨k - (N + 1), by omega⟩
  have := keys_loop secret hs N h8 k' (by omega) N 0 (by omega)
  rw [List.take_zero, List.nil_append] at this
  exact this

theorem keys_small (secret : ByteArray) (h : Nat) : Small (Sl.keys secret h) := by
  intro x hx
  obtain ⟨i, _, rfl⟩ := List.mem_map.1 hx
  rw [key_size]; omega

theorem public_is (secret : ByteArray) (hs : secret.size ≤ 300) (h : Nat) (hh : h ≤ 4) (k : Nat) (hk : 2000 ≤ k) : seal_Public.f k secret (h : Int) = some (Tr.root (Sl.keys secret h), 0) := by
  have h4 : 2 ^ h ≤ 16 := Nat.pow_le_pow_right (show 0 < 2 by decide) hh
  obtain ⟨k, rfl⟩ : ∃ k', k = k' + 1 := ⟨k - 1, by omega⟩
  unfold seal_Public.f
  rw [if_neg (by omega), decide_eq_false (by omega), seal_Public.j0, if_neg (by simp), keys_is secret hs h (by omega) k (by omega), Option.bind_some, root_is _ k (by rw [Sl.keys_length]; omega) (keys_small secret h) (by rw [Sl.keys_length]; omega)]
  rfl

/-! ### Sign, Verify -/

theorem listF_all (f : Fin 18 → Option ByteArray) (g : Fin 18 → ByteArray) (hg : ∀ x, f x = some (g x)) : ∀ l, listF f l = some (l.map g) := by
  intro l
  induction l with
  | nil => rfl
  | cons x l ih => rw [listF, hg x, Option.bind_some, ih, Option.bind_some]; rfl

theorem fin_map (g : Nat → ByteArray) : (List.finRange 18).map (fun x => g x.1) = (List.range 18).map g := by
  apply List.ext_getElem
  · simp
  · intro i h1 h2
    simp

theorem sign_is (secret m : ByteArray) (hs : secret.size ≤ 300) (hm : m.size ≤ 300) (h : Nat) (hh : h ≤ 4) (i : Nat) (hi : i < 2 ^ h) (k : Nat) (hk : 2000 ≤ k) :
    seal_Sign.f k secret (h : Int) (i : Int) m = some ((i : Int), Sl.sigOf secret i m, Tr.path (Sl.keys secret h) i, 0) := by
  have h4 : 2 ^ h ≤ 16 := Nat.pow_le_pow_right (show 0 < 2 by decide) hh
  unfold seal_Sign.f
  rw [if_neg (by rw [Int.toNat_natCast, Sl.two_nat]; omega), if_pos (by omega)]
  rw [listF_all _ (fun x => Sl.chain (Sl.dg m x.1) (Sl.start secret i x.1)) (by
    intro x
    have h18 := x.2
    have hd := Sl.dg_le m x.1
    unfold sig1
    rw [start_is secret hs i x.1 (by omega) (by omega), Option.bind_some, chain_is _ _ (by omega) (by rw [start_size]; omega) k (by omega)])]
  rw [Option.bind_some, keys_is secret hs h (by omega) k (by omega), Option.bind_some, path_is _ i (by rw [Sl.keys_length]; omega) (keys_small secret h) (by rw [Sl.keys_length]; exact hi) k (by omega), Option.bind_some, fin_map (fun x => Sl.chain (Sl.dg m x) (Sl.start secret i x))]
  rfl

theorem isD_sz {x : ByteArray} {l : List ByteArray} (h : Tr.proper l = true) (hx : x ∈ l) : x.size = 16 := isD_size (List.all_eq_true.1 h x hx)

theorem verify_is (pub m : ByteArray) (hm : m.size ≤ 300) (idx : Int) (sig p : List ByteArray) (k : Nat) (hk : 100 ≤ k) : seal_Verify.f k pub m idx sig p = some (Sl.verify pub m idx sig p) := by
  unfold seal_Verify.f Sl.verify
  split
  · rfl
  · rename_i hg
    have g1 : sig.length = 18 := Classical.byContradiction fun e => hg (.inl e)
    have g2 : p.length ≤ 8 := Classical.byContradiction fun e => hg (.inr (.inl (by omega)))
    have g3 : Tr.proper sig = true := by cases hp : Tr.proper sig with | true => rfl | false => exact absurd (.inr (.inr (.inl hp))) hg
    rw [if_pos (by omega)]
    rw [listF_all _ (fun x => Sl.chain (15 - Sl.dg m x.1) (sig.getD x.1 ByteArray.empty)) (by
      intro x
      have h18 := x.2
      have hd := Sl.dg_le m x.1
      have hz : (sig.getD x.1 ByteArray.empty).size = 16 := by
        rw [List.getD_eq_getElem?_getD, List.getElem?_eq_getElem (by omega)]
        exact isD_sz g3 (List.getElem_mem _)
      unfold ver1
      have e : (15 - (Sl.dg m x.1 : Int)) = ((15 - Sl.dg m x.1 : Nat) : Int) := by omega
      rw [e, chain_is _ _ (by omega) (by rw [hz]; omega) k (by omega)])]
    rw [Option.bind_some, fin_map (fun x => Sl.chain (15 - Sl.dg m x) (sig.getD x ByteArray.empty))]
    have hf : (List.range 18).map (fun x => Sl.chain (15 - Sl.dg m x) (sig.getD x ByteArray.empty)) = Sl.fins m sig := rfl
    rw [hf, of_is _ (by rw [Sl.fins_length]; omega) (by
      intro x hx
      obtain ⟨q, hq, rfl⟩ := List.mem_map.1 hx
      have hq2 : q < 18 := List.mem_range.1 hq
      rw [Sl.chain_size _ _ (by
        rw [List.getD_eq_getElem?_getD, List.getElem?_eq_getElem (by omega)]
        exact isD_sz g3 (List.getElem_mem _))]
      omega), Option.bind_some, check_is _ _ _ _ _ (by omega) (by rw [Dg.list_size]; omega)]

/-! ### the head -/

end Go.Proofs.YtoimnllcniefoaaDoor.P
/- What the reference's functions answer, as the print has them: short texts, few texts, digits, the texts of a key and of a check. -/
namespace Go.Proofs.YtoimnllcniefoaaDoor.P
open Go.RowKit Go.Proofs.YtoimnllcniefoaaDoor Go.Proofs.YtoimnllcniefoaaDoorW.PrintWords Go.Proofs.YtoimnllcniefoaaDoorW.PrintLast Go.Proofs.YtoimnllcniefoaaDoorW.PrintMore
set_option linter.unusedVariables false
set_option linter.unusedSimpArgs false

/-! ### short texts, few texts, equal seals -/

theorem take30 (l : List ByteArray) (i : Nat) (h1 : ∀ x ∈ l.take i, x.size ≤ 100) (h2 : l.length ≤ i ∨ 30 ≤ i) : l.length ≤ 30 → Small l := by
  intro h x hx
  rw [List.take_of_length_le (by omega)] at h1
  exact h1 x hx

theorem few_l1 (idx : Int) (a b : List ByteArray) (ha : ∀ i, (∀ x ∈ a.take i, x.size ≤ 100) → True) (hA : a.length ≤ 30 → Small a) (k : Nat) : ∀ (r i : Nat), i + r = 31 → i ≤ 30 → (∀ x ∈ b.take i, x.size ≤ 100) →
    ∃ c, pandectref03_Few.l1 (2 * r + 4 + k) (i : Int) idx a b = some c ∧ (c = true → a.length ≤ 30 ∧ b.length ≤ 30 ∧ Small a ∧ Small b) := by
  intro r
  induction r with
  | zero => intro i hi h30 _; omega
  | succ r ih =>
    intro i hi h30 ht
    have fin : (b.length ≤ i ∨ 30 ≤ i) → ∀ q, ∃ c, pandectref03_Few.j3 (q + 1) (i : Int) false idx a b = some c ∧ (c = true → a.length ≤ 30 ∧ b.length ≤ 30 ∧ Small a ∧ Small b) := by
      intro hend q
      have hB := take30 b i ht hend
      rw [pandectref03_Few.j3, if_neg (by simp)]
      by_cases h1 : a.length ≤ 30
      · rw [if_pos (by omega)]
        refine ⟨_, rfl, fun h => ?_⟩
        have h2 : b.length ≤ 30 := by have := of_decide_eq_true h; omega
        exact ⟨h1, h2, hA h1, hB h2⟩
      · rw [if_neg (by omega)]
        exact ⟨false, rfl, fun h => by cases h⟩
    rw [show 2 * (r + 1) + 4 + k = (2 * r + 4 + k + 1) + 1 by omega, pandectref03_Few.l1]
    by_cases hlt : i < b.length
    · rw [if_pos (by omega)]
      by_cases hi30 : i < 30
      · rw [decide_eq_true (by omega), pandectref03_Few.j3, if_pos rfl, if_pos (by omega), if_pos (by omega), rd_lt b i hlt, w1 i (by omega)]
        by_cases he : (b[i]'hlt).size ≤ 100
        · rw [if_neg (by omega)]
          refine ih (i + 1) (by omega) (by omega) fun x hx => ?_
          rw [List.take_succ_eq_append_getElem hlt] at hx
          rcases List.mem_append.1 hx with h | h
          · exact ht x h
          · rw [List.mem_singleton.1 h]; exact he
        · exact ⟨false, by rw [if_pos (by omega)], fun h => by cases h⟩
      · rw [decide_eq_false (by omega)]
        exact fin (.inr (by omega)) _
    · rw [if_neg (by omega)]
      exact fin (.inl (by omega)) _

theorem few_l0 (idx : Int) (a b : List ByteArray) (k : Nat) : ∀ (r i : Nat), i + r = 31 → i ≤ 30 → (∀ x ∈ a.take i, x.size ≤ 100) →
    ∃ c, pandectref03_Few.l0 (2 * r + 80 + k) (i : Int) idx a b = some c ∧ (c = true → a.length ≤ 30 ∧ b.length ≤ 30 ∧ Small a ∧ Small b) := by
  intro r
  induction r with
  | zero => intro i hi h30 _; omega
  | succ r ih =>
    intro i hi h30 ht
    have fin : (a.length ≤ i ∨ 30 ≤ i) → ∀ q, 70 ≤ q → ∃ c, pandectref03_Few.j1 (q + 1) (i : Int) false idx a b = some c ∧ (c = true → a.length ≤ 30 ∧ b.length ≤ 30 ∧ Small a ∧ Small b) := by
      intro hend q hq
      have hA := take30 a i ht hend
      rw [pandectref03_Few.j1, if_neg (by simp)]
      have := few_l1 idx a b (fun _ _ => trivial) hA (q - 66) 31 0 (by omega) (by omega) (by simp)
      rw [show 2 * 31 + 4 + (q - 66) = q by omega] at this
      exact this
    rw [show 2 * (r + 1) + 80 + k = (2 * r + 80 + k + 1) + 1 by omega, pandectref03_Few.l0]
    by_cases hlt : i < a.length
    · rw [if_pos (by omega)]
      by_cases hi30 : i < 30
      · rw [decide_eq_true (by omega), pandectref03_Few.j1, if_pos rfl, if_pos (by omega), if_pos (by omega), rd_lt a i hlt, w1 i (by omega)]
        by_cases he : (a[i]'hlt).size ≤ 100
        · rw [if_neg (by omega)]
          refine ih (i + 1) (by omega) (by omega) fun x hx => ?_
          rw [List.take_succ_eq_append_getElem hlt] at hx
          rcases List.mem_append.1 hx with h | h
          · exact ht x h
          · rw [List.mem_singleton.1 h]; exact he
        · exact ⟨false, by rw [if_pos (by omega)], fun h => by cases h⟩
      · rw [decide_eq_false (by omega)]
        exact fin (.inr (by omega)) _ (by omega)
    · rw [if_neg (by omega)]
      exact fin (.inl (by omega)) _ (by omega)

theorem few3_is (idx : Int) (a b : List ByteArray) (k : Nat) (hk : 200 ≤ k) : ∃ c, pandectref03_Few.f k idx a b = some c ∧ (c = true → a.length ≤ 30 ∧ b.length ≤ 30 ∧ Small a ∧ Small b) := by
  have := few_l0 idx a b (k - 142) 31 0 (by omega) (by omega) (by simp)
  rw [show 2 * 31 + 80 + (k - 142) = k by omega] at this
  exact this

/-! ### chains of texts, nodes, powers -/

/-! ### digits -/

end Go.Proofs.YtoimnllcniefoaaDoor.P
/- What the functions of the package vote answer: messages, valid votes, counts, whether a bill is carried. -/
namespace Go.Proofs.YtoimnllcniefoaaDoor.Vo
open Go Go.Proofs.YtoimnllcniefoaaDoor Go.Proofs.YtoimnllcniefoaaDoor.P Go.Proofs.YtoimnllcniefoaaDoorW.PrintWords

def itoaB (n : Int) : ByteArray := ⟨(Lib.itoa n).toArray⟩
def word (y : Bool) : ByteArray := if y = true then ⟨#[121, 101, 115]⟩ else ⟨#[110, 111]⟩
def wVote : ByteArray := ⟨#[118, 111, 116, 101]⟩
def fieldsOf (v : V) : List ByteArray := [wVote, v.f1, itoaB v.f2, itoaB v.f0, word v.f3]
def msg (v : V) : ByteArray := Dg.list (fieldsOf v)
def valid (ch : Int) (keys : List ByteArray) (bill : ByteArray) (v : V) : Bool :=
  if v.f2 ≠ ch ∨ v.f1 ≠ bill ∨ v.f0 < 0 ∨ (keys.length : Int) ≤ v.f0 then false else Sl.verify (rdOf ByteArray.empty keys v.f0) (msg v) v.f4.f0 v.f4.f1 v.f4.f2
/-- Whether a vote is valid, for a roll that may not be proper. -/
def okv (ch : Int) (keys : List ByteArray) (q num den : Int) (bill : ByteArray) (v : V) : Bool := proper ch keys q num den && valid ch keys bill v
def count (ch : Int) (keys : List ByteArray) (q num den : Int) (bill : ByteArray) (l : List V) : Cn := cnt (okv ch keys q num den bill) l l.length
def carried (ch : Int) (keys : List ByteArray) (q num den : Int) (cch : Int) (bill : ByteArray) (l : List V) : Int :=
  if proper ch keys q num den = false ∨ cch ≠ ch ∨ Dg.isD bill = false then 1 else if 120 < l.length then 2
  else if (count ch keys q num den bill l).yes + (count ch keys q num den bill l).no < q then 20
  else if den * (count ch keys q num den bill l).yes ≤ num * ((count ch keys q num den bill l).yes + (count ch keys q num den bill l).no) then 12 else 0

theorem proper_true {ch : Int} {keys : List ByteArray} {q num den : Int} (h : proper ch keys q num den = true) : (ch = 1 ∨ ch = 2) ∧ 1 ≤ keys.length ∧ keys.length ≤ 60 ∧ 1 ≤ q ∧ q ≤ keys.length ∧ 0 ≤ num ∧ num < den ∧ den ≤ 60 ∧ Tr.proper keys = true := by
  unfold proper ratio at h
  simp only [Bool.and_eq_true, Bool.or_eq_true, decide_eq_true_eq] at h
  obtain ⟨⟨⟨⟨⟨⟨h1, h2⟩, h3⟩, h4⟩, h5⟩, ⟨h6, h7⟩, h8⟩, h9⟩ := h
  exact ⟨h1, by omega, by omega, h4, h5, h6, h7, h8, h9⟩

theorem cnt_congr (f g : V → Bool) (l : List V) (h : ∀ v ∈ l, f v = g v) : ∀ j, cnt f l j = cnt g l j := by
  intro j
  induction j with
  | zero => rfl
  | succ j ih =>
    by_cases hj : j < l.length
    · rw [cnt_succ _ _ hj, cnt_succ _ _ hj, ih]
      unfold step counts
      rw [h _ (List.getElem_mem hj)]
    · have e : l[j]? = none := List.getElem?_eq_none (by omega)
      show (match l[j]? with | some v => step f (cnt f l j) j v | none => cnt f l j) = (match l[j]? with | some v => step g (cnt g l j) j v | none => cnt g l j)
      rw [e]; exact ih
theorem count_inv (ch : Int) (keys : List ByteArray) (q num den : Int) (bill : ByteArray) (l : List V) : 0 ≤ (count ch keys q num den bill l).yes ∧ 0 ≤ (count ch keys q num den bill l).no ∧ (count ch keys q num den bill l).yes + (count ch keys q num den bill l).no + ((count ch keys q num den bill l).bad.length : Int) = l.length := by
  obtain ⟨h1, h2, h3, _⟩ := cnt_inv (ok := okv ch keys q num den bill) l l.length (Nat.le_refl _)
  exact ⟨h1, h2, h3⟩
end Go.Proofs.YtoimnllcniefoaaDoor.Vo
namespace Go.Proofs.YtoimnllcniefoaaDoor.P
open Go.RowKit Go.Proofs.YtoimnllcniefoaaDoor Go.Proofs.YtoimnllcniefoaaDoorW.PrintWords Go.Proofs.YtoimnllcniefoaaDoorW.PrintLast Go.Proofs.YtoimnllcniefoaaDoorW.PrintMore
set_option linter.unusedVariables false
set_option linter.unusedSimpArgs false

theorem itoaB_is (n : Int) (h0 : -9223372036854775808 ≤ n) (h1 : n ≤ 9223372036854775807) : strconv_Itoa.f n = some (Vo.itoaB n) := by
  unfold strconv_Itoa.f
  rw [if_pos ⟨h0, h1⟩]; rfl
theorem itoaB_size (n : Int) (h0 : -9223372036854775808 ≤ n) (h1 : n ≤ 9223372036854775807) : (Vo.itoaB n).size ≤ 21 := by
  show (Lib.itoa n).toArray.size ≤ 21
  rw [List.size_toArray]; exact Lib.itoa_length_le n h0 h1
theorem fields_len (v : Vo.V) (hb : v.f1.size ≤ 1000) (h0 : -9223372036854775808 ≤ v.f0) (h1 : v.f0 ≤ 9223372036854775807) (h2 : -9223372036854775808 ≤ v.f2) (h3 : v.f2 ≤ 9223372036854775807) : (Dg.joinedL (Vo.fieldsOf v)).length ≤ 2000 := by
  have p1 := Dg.piece_le Vo.wVote (by decide)
  have p2 := Dg.piece_le v.f1 (by omega)
  have s3 := itoaB_size v.f2 h2 h3
  have s4 := itoaB_size v.f0 h0 h1
  have p3 := Dg.piece_le (Vo.itoaB v.f2) (by omega)
  have p4 := Dg.piece_le (Vo.itoaB v.f0) (by omega)
  have s5 : (Vo.word v.f3).size ≤ 3 := by unfold Vo.word; split <;> decide
  have p5 := Dg.piece_le (Vo.word v.f3) (by omega)
  have s1 : Vo.wVote.size = 4 := rfl
  unfold Vo.fieldsOf
  simp only [Dg.joinedL, List.flatMap_cons, List.flatMap_nil, List.length_append, List.length_nil]
  omega
theorem list_is (l : List ByteArray) (h1 : l.length ≤ 1000) (h2 : (Dg.joinedL l).length ≤ 100000) : vote_list.f l = some (Dg.list l) := by
  unfold vote_list.f digest_List.f
  rw [if_pos ⟨by omega, by omega⟩]; rfl
theorem message_is (v : Vo.V) (hb : v.f1.size ≤ 1000) (h0 : -9223372036854775808 ≤ v.f0) (h1 : v.f0 ≤ 9223372036854775807) (h2 : -9223372036854775808 ≤ v.f2) (h3 : v.f2 ≤ 9223372036854775807) (i : Int) (s p : List ByteArray) : vote_Message.f v.f0 v.f1 v.f2 v.f3 i s p = some (Vo.msg v) := by
  have hl := fields_len v hb h0 h1 h2 h3
  unfold vote_Message.f
  rw [itoaB_is v.f2 h2 h3, itoaB_is v.f0 h0 h1]
  simp only [Option.bind_some]
  cases hy : v.f3 with
  | true =>
    rw [if_pos rfl]
    have e : Vo.fieldsOf v = [Vo.wVote, v.f1, Vo.itoaB v.f2, Vo.itoaB v.f0, ⟨#[121, 101, 115]⟩] := by unfold Vo.fieldsOf Vo.word; rw [hy, if_pos rfl]
    have e2 : Vo.msg v = Dg.list (Vo.fieldsOf v) := rfl
    rw [e2, e]
    rw [e] at hl
    rw [show ([(⟨#[118, 111, 116, 101]⟩ : ByteArray), v.f1, Vo.itoaB v.f2, Vo.itoaB v.f0, (⟨#[121, 101, 115]⟩ : ByteArray)] : List ByteArray) = [Vo.wVote, v.f1, Vo.itoaB v.f2, Vo.itoaB v.f0, ⟨#[121, 101, 115]⟩] from rfl, list_is _ (by simp) (by omega)]; rfl
  | false =>
    rw [if_neg (by simp)]
    have e : Vo.fieldsOf v = [Vo.wVote, v.f1, Vo.itoaB v.f2, Vo.itoaB v.f0, ⟨#[110, 111]⟩] := by unfold Vo.fieldsOf Vo.word; rw [hy, if_neg (by simp)]
    have e2 : Vo.msg v = Dg.list (Vo.fieldsOf v) := rfl
    rw [e2, e]
    rw [e] at hl
    rw [show ([(⟨#[118, 111, 116, 101]⟩ : ByteArray), v.f1, Vo.itoaB v.f2, Vo.itoaB v.f0, (⟨#[110, 111]⟩ : ByteArray)] : List ByteArray) = [Vo.wVote, v.f1, Vo.itoaB v.f2, Vo.itoaB v.f0, ⟨#[110, 111]⟩] from rfl, list_is _ (by simp) (by omega)]; rfl
theorem msg_size (v : Vo.V) : (Vo.msg v).size = 16 := Dg.list_size _

theorem valF_is (k : Nat) (hk : 100 ≤ k) (ch : Int) (keys : List ByteArray) (bill : ByteArray) (v : Vo.V) (hc : ch = 1 ∨ ch = 2) (hn : keys.length ≤ 60) (hb : bill.size ≤ 1000) : valF k ch keys bill v = some (Vo.valid ch keys bill v) := by
  unfold valF Vo.valid
  split
  · rfl
  · rename_i hg
    have h1 : v.f2 = ch := Classical.byContradiction fun e => hg (.inl e)
    have h2 : v.f1 = bill := Classical.byContradiction fun e => hg (.inr (.inl e))
    have h3 : 0 ≤ v.f0 := Classical.byContradiction fun e => hg (.inr (.inr (.inl (by omega))))
    have h4 : v.f0 < (keys.length : Int) := Classical.byContradiction fun e => hg (.inr (.inr (.inr (by omega))))
    rw [message_is v (by rw [h2]; exact hb) (by omega) (by omega) (by omega) (by omega), Option.bind_some, verify_is _ _ (by rw [msg_size]; decide) _ _ _ k hk]

theorem count_is (k : Nat) (hk : 100 ≤ k) (ch : Int) (keys : List ByteArray) (q num den : Int) (bill : ByteArray) (hb : bill.size ≤ 1000) (l : List Vo.V) (hl : l.length ≤ 1000000) : vote_Count.f k ch keys q num den bill l = some ((Vo.count ch keys q num den bill l).yes, (Vo.count ch keys q num den bill l).no, (Vo.count ch keys q num den bill l).bad) := by
  unfold vote_Count.f
  rw [if_pos hl]
  cases hp : Vo.proper ch keys q num den with
  | true =>
    obtain ⟨p1, _, p3, _⟩ := Vo.proper_true hp
    have hv := fun v => valF_is k hk ch keys bill v p1 p3 hb
    rw [if_pos rfl, if_pos (by rw [List.all_eq_true]; intro v _; rw [hv]; rfl)]
    have e : Vo.count ch keys q num den bill l = Vo.cnt (okF k ch keys bill) l l.length := by
      unfold Vo.count
      refine (Vo.cnt_congr _ _ l (fun v _ => ?_) _).symm
      unfold okF Vo.okv
      rw [hv, hp]; rfl
    rw [e]
  | false =>
    rw [if_neg (by simp)]
    have e : Vo.count ch keys q num den bill l = Vo.cnt (fun _ => false) l l.length := by
      unfold Vo.count
      refine (Vo.cnt_congr _ _ l (fun v _ => ?_) _).symm
      unfold Vo.okv
      rw [hp]; rfl
    rw [e]

theorem carried_is (k : Nat) (hk : 200 ≤ k) (ch : Int) (keys : List ByteArray) (q num den : Int) (cch : Int) (bill : ByteArray) (l : List Vo.V) (hl : l.length ≤ 1000000) : vote_Carried.f k ch keys q num den cch bill l = some (Vo.carried ch keys q num den cch bill l) := by
  obtain ⟨k, rfl⟩ : ∃ m, k = m + 1 := ⟨k - 1, by omega⟩
  unfold vote_Carried.f vote_proper.f Vo.carried
  rw [Option.bind_some]
  cases hp : Vo.proper ch keys q num den with
  | false => rw [if_neg (by simp), if_pos (.inl rfl)]; rfl
  | true =>
    rw [if_pos rfl]
    by_cases hc : cch = ch
    · rw [if_pos hc]
      unfold digest_Is.f
      rw [Option.bind_some]
      cases hd : Dg.isD bill with
      | false => rw [if_pos (.inr (.inr rfl))]; rfl
      | true =>
        rw [if_neg (by simp [hc])]
        rw [vote_Carried.j0, if_neg (by simp)]
        by_cases h120 : 120 < l.length
        · rw [if_pos (by omega), if_pos h120]
        · rw [if_neg (by omega), if_neg h120]
          have hb : bill.size ≤ 1000 := by rw [isD_size hd]; decide
          rw [count_is k (by omega) ch keys q num den bill hb l hl, Option.bind_some]
          dsimp only
          obtain ⟨_, _, _, p4, p5, p6, p7, p8, _⟩ := Vo.proper_true hp
          obtain ⟨i1, i2, i3⟩ := Vo.count_inv ch keys q num den bill l
          generalize (Vo.count ch keys q num den bill l).yes = y at i1 i3 ⊢
          generalize (Vo.count ch keys q num den bill l).no = n at i2 i3 ⊢
          have w1 : wrap64 (y + n) = y + n := IntWalk.wrap64_in _ (by omega)
          have b1 : 0 ≤ den * y ∧ den * y ≤ 60 * 120 := ⟨Int.mul_nonneg (by omega) i1, Int.mul_le_mul p8 (by omega) i1 (by decide)⟩
          have b2 : 0 ≤ num * (y + n) ∧ num * (y + n) ≤ 60 * 120 := ⟨Int.mul_nonneg p6 (by omega), Int.mul_le_mul (by omega) (by omega) (by omega) (by decide)⟩
          have w2 : wrap64 (den * y) = den * y := IntWalk.wrap64_in _ (by omega)
          have w3 : wrap64 (num * (y + n)) = num * (y + n) := IntWalk.wrap64_in _ (by omega)
          rw [w1, w2, w3]
          split
          · rfl
          · split <;> rfl
    · rw [if_neg hc, if_pos (.inr (.inl hc))]; rfl
end Go.Proofs.YtoimnllcniefoaaDoor.P
/- The head of the votes' statements is true: the examples, reckoned. -/
namespace Go.Proofs.YtoimnllcniefoaaDoor.P
open Go.RowKit Go.Proofs.YtoimnllcniefoaaDoor Go.Proofs.YtoimnllcniefoaaDoorW.PrintWords Go.Proofs.YtoimnllcniefoaaDoorW.PrintLast Go.Proofs.YtoimnllcniefoaaDoorW.PrintMore
set_option linter.unusedVariables false
set_option linter.unusedSimpArgs false

def sec : Nat → ByteArray
  | 0 => ⟨#[97]⟩
  | 1 => ⟨#[98]⟩
  | _ => ⟨#[99]⟩
def mOf (m : Nat) (y : Bool) : ByteArray := Vo.msg ⟨(m : Int), wBill, 1, y, z31⟩
def sv (m i : Nat) (y : Bool) : Vo.V := ⟨(m : Int), wBill, 1, y, ⟨(i : Int), Sl.sigOf (sec m) i (mOf m y), Tr.path (Sl.keys (sec m) 1) i⟩⟩
def pk (m : Nat) : ByteArray := Tr.root (Sl.keys (sec m) 1)
def pks : List ByteArray := [pk 0, pk 1, pk 2]

set_option maxRecDepth 100000 in
theorem forged_ne : Tr.node (Tr.leaf (Dg.list (Sl.fins (mOf 1 false) (Sl.sigOf (sec 1) 0 (mOf 1 true))))) (Tr.leaf (Sl.key (sec 1) 1)) ≠ Tr.node (Tr.leaf (Sl.key (sec 1) 0)) (Tr.leaf (Sl.key (sec 1) 1)) := by decide +kernel

theorem half_two : Tr.half 2 = 1 := by decide
theorem keys_two (m : Nat) : Sl.keys (sec m) 1 = [Sl.key (sec m) 0, Sl.key (sec m) 1] := rfl
theorem path_two (m : Nat) : Tr.path (Sl.keys (sec m) 1) 0 = [Tr.leaf (Sl.key (sec m) 1)] := by
  rw [keys_two, Tr.path_left _ _ (by simp) (by simp only [List.length_cons, List.length_nil]; rw [half_two]; decide)]
  simp only [List.length_cons, List.length_nil, Nat.zero_add]
  rw [half_two]
  rw [show ([Sl.key (sec m) 0, Sl.key (sec m) 1].take 1) = [Sl.key (sec m) 0] from rfl, show ([Sl.key (sec m) 0, Sl.key (sec m) 1].drop 1) = [Sl.key (sec m) 1] from rfl, Tr.path_one _ _ (by simp), Tr.root_one _ rfl]
  rfl

theorem forged_no : Sl.verify (pk 1) (mOf 1 false) 0 (Sl.sigOf (sec 1) 0 (mOf 1 true)) (Tr.path (Sl.keys (sec 1) 1) 0) = false := by
  cases hv : Sl.verify (pk 1) (mOf 1 false) 0 (Sl.sigOf (sec 1) 0 (mOf 1 true)) (Tr.path (Sl.keys (sec 1) 1) 0) with
  | false => rfl
  | true =>
    obtain ⟨i, hi, _, _, _, _, _, h⟩ := Sl.verify_true hv
    obtain rfl : i = 0 := by omega
    rw [path_two] at h
    unfold pk at h
    rw [keys_two, Tr.root_node _ (by simp)] at h
    simp only [List.length_cons, List.length_nil, Nat.zero_add] at h
    rw [half_two, show ([Sl.key (sec 1) 0, Sl.key (sec 1) 1].take 1) = [Sl.key (sec 1) 0] from rfl, show ([Sl.key (sec 1) 0, Sl.key (sec 1) 1].drop 1) = [Sl.key (sec 1) 1] from rfl, Tr.root_one _ rfl, Tr.root_one _ rfl] at h
    exfalso
    refine forged_ne (Eq.trans ?_ h)
    rw [show 2 ^ 1 = 2 from rfl, Tr.up_left _ _ _ _ (by decide) (by decide)]
    rw [half_two, Tr.up_one _ _ _ _ (by decide)]
    rfl

theorem sec_size (m : Nat) : (sec m).size ≤ 300 := by
  rcases m with _ | _ | m
  · decide
  · decide
  · show (⟨#[99]⟩ : ByteArray).size ≤ 300
    decide
theorem mOf_size (m : Nat) (y : Bool) : (mOf m y).size ≤ 300 := by unfold mOf; rw [msg_size]; decide

theorem signed_is (k : Nat) (hk : 2000 ≤ k) (m : Nat) (hm : m < 3) (i : Nat) (hi : i < 2) (y : Bool) : signedV k (m : Int) (i : Int) y = some (sv m i y) := by
  unfold signedV pandectlaw39_signed.f
  rw [Option.bind_some, if_pos (by omega), if_pos (by simp; omega)]
  have e := message_is ⟨(m : Int), wBill, 1, y, z31⟩ (by show wBill.size ≤ 1000; decide) (by show -9223372036854775808 ≤ (m : Int); omega) (by show (m : Int) ≤ 9223372036854775807; omega) (by show (-9223372036854775808 : Int) ≤ 1; decide) (by show (1 : Int) ≤ 9223372036854775807; decide) 0 [] []
  dsimp only at e
  rw [show (⟨#[48, 49, 50, 51, 52, 53, 54, 55, 56, 57, 97, 98, 99, 100, 101, 102]⟩ : ByteArray) = wBill from rfl, e, Option.bind_some]
  have hs : rdOf ByteArray.empty ([(⟨#[97]⟩ : ByteArray), (⟨#[98]⟩ : ByteArray), (⟨#[99]⟩ : ByteArray)] : List ByteArray) (m : Int) = sec m := by
    rcases m with _ | _ | _ | m
    · rfl
    · rfl
    · rfl
    · omega
  have hg := sign_is (sec m) (mOf m y) (sec_size m) (mOf_size m y) 1 (by decide) i hi k hk
  rw [hs, show ((1 : Nat) : Int) = 1 from rfl] at *
  unfold mOf at hg
  rw [hg]
  rfl

theorem roll_is (k : Nat) (hk : 3000 ≤ k) : pandectlaw39_roll.f k = some (1, pks, 2, 1, 2) := by
  unfold pandectlaw39_roll.f
  obtain ⟨k, rfl⟩ : ∃ q, k = q + 1 + 1 + 1 + 1 := ⟨k - 4, by omega⟩
  have hp := fun (m : Nat) (j : Nat) (hj : 2000 ≤ j) => public_is (sec m) (sec_size m) 1 (by decide) j hj
  rw [show ((1 : Nat) : Int) = 1 from rfl] at hp
  rw [pandectlaw39_roll.l0, if_pos (by decide), if_pos (by decide), show rdOf ByteArray.empty ([(⟨#[97]⟩ : ByteArray), (⟨#[98]⟩ : ByteArray), (⟨#[99]⟩ : ByteArray)] : List ByteArray) 0 = sec 0 from rfl, hp 0 _ (by omega), Option.bind_some, if_pos (by simp), show wrap64 (0 + 1) = 1 from IntWalk.wrap64_in _ (by decide)]
  rw [pandectlaw39_roll.l0, if_pos (by decide), if_pos (by decide), show rdOf ByteArray.empty ([(⟨#[97]⟩ : ByteArray), (⟨#[98]⟩ : ByteArray), (⟨#[99]⟩ : ByteArray)] : List ByteArray) 1 = sec 1 from rfl, hp 1 _ (by omega), Option.bind_some, if_pos (by simp), show wrap64 (1 + 1) = 2 from IntWalk.wrap64_in _ (by decide)]
  rw [pandectlaw39_roll.l0, if_pos (by decide), if_pos (by decide), show rdOf ByteArray.empty ([(⟨#[97]⟩ : ByteArray), (⟨#[98]⟩ : ByteArray), (⟨#[99]⟩ : ByteArray)] : List ByteArray) 2 = sec 2 from rfl, hp 2 _ (by omega), Option.bind_some, if_pos (by simp), show wrap64 (2 + 1) = 3 from IntWalk.wrap64_in _ (by decide)]
  rw [pandectlaw39_roll.l0, if_neg (by decide)]
  rfl

theorem pks_proper : Vo.proper 1 pks 2 1 2 = true := by
  have h : Tr.proper pks = true := by
    unfold Tr.proper pks pk
    simp [Tr.isD_root]
  unfold Vo.proper Vo.ratio
  rw [h]
  rfl
theorem sv_ok (m : Nat) (hm : m < 3) (i : Nat) (hi : i < 2) (y : Bool) : Vo.okv 1 pks 2 1 2 wBill (sv m i y) = true := by
  unfold Vo.okv Vo.valid
  rw [pks_proper, Bool.true_and, if_neg]
  · have hk : rdOf ByteArray.empty pks (sv m i y).f0 = pk m := by
      rcases m with _ | _ | _ | m
      · rfl
      · rfl
      · rfl
      · omega
    rw [hk]
    exact Sl.verify_own (sec m) 1 (by decide) i hi (mOf m y)
  · intro h
    rcases h with h | h | h | h
    · exact h rfl
    · exact h rfl
    · have : (m : Int) < 0 := h
      omega
    · have : ((3 : Nat) : Int) ≤ (m : Int) := h
      omega
theorem forged_bad : Vo.okv 1 pks 2 1 2 wBill (noOf (sv 1 0 true)) = false := by
  unfold Vo.okv Vo.valid
  rw [pks_proper, Bool.true_and]
  split
  · rfl
  · exact forged_no

theorem head_is (k : Nat) (hk : 4000 ≤ k) : pandectlaw39_head.f k = some true := by
  unfold pandectlaw39_head.f
  have s1 := signed_is k (by omega) 0 (by decide) 0 (by decide) true
  have s2 := signed_is k (by omega) 1 (by decide) 0 (by decide) true
  have s3 := signed_is k (by omega) 2 (by decide) 0 (by decide) false
  have s4 := signed_is k (by omega) 0 (by decide) 1 (by decide) false
  have s5 := signed_is k (by omega) 1 (by decide) 1 (by decide) false
  simp only [Int.natCast_zero, Int.cast_ofNat_Int, show ((1 : Nat) : Int) = 1 from rfl, show ((2 : Nat) : Int) = 2 from rfl, show ((0 : Nat) : Int) = 0 from rfl] at s1 s2 s3 s4 s5
  rw [roll_is k (by omega), Option.bind_some, s1, Option.bind_some, s2, Option.bind_some, s3, Option.bind_some, s4, Option.bind_some, s5, Option.bind_some]
  have oa := sv_ok 0 (by decide) 0 (by decide) true
  have ob := sv_ok 1 (by decide) 0 (by decide) true
  have oc := sv_ok 2 (by decide) 0 (by decide) false
  have oo := sv_ok 0 (by decide) 1 (by decide) false
  have o1 := sv_ok 1 (by decide) 1 (by decide) false
  have of_ := forged_bad
  have fa : (sv 0 0 true).f0 = 0 := rfl
  have fb : (sv 1 0 true).f0 = 1 := rfl
  have fc : (sv 2 0 false).f0 = 2 := rfl
  have fo : (sv 0 1 false).f0 = 0 := rfl
  have f1 : (sv 1 1 false).f0 = 1 := rfl
  have ff : (noOf (sv 1 0 true)).f0 = 1 := rfl
  have ya : (sv 0 0 true).f3 = true := rfl
  have yb : (sv 1 0 true).f3 = true := rfl
  have yc : (sv 2 0 false).f3 = false := rfl
  have yo : (sv 0 1 false).f3 = false := rfl
  have y1 : (sv 1 1 false).f3 = false := rfl
  have hd : Dg.isD wBill = true := by decide +kernel
  unfold headRest
  dsimp only
  have hb : wBill.size ≤ 1000 := by decide
  rw [count_is k (by omega) 1 pks 2 1 2 wBill hb _ (by simp), Option.bind_some, carried_is k (by omega) 1 pks 2 1 2 1 wBill _ (by simp), Option.bind_some, carried_is k (by omega) 1 pks 2 1 2 1 wBill _ (by simp), Option.bind_some, carried_is k (by omega) 1 pks 2 1 2 1 wBill _ (by simp), Option.bind_some, carried_is k (by omega) 1 pks 2 1 2 1 wBill _ (by simp), Option.bind_some]
  have cc : ∀ l : List Vo.V, l.length ≤ 5 → Vo.carried 1 pks 2 1 2 1 wBill l = if (Vo.count 1 pks 2 1 2 wBill l).yes + (Vo.count 1 pks 2 1 2 wBill l).no < 2 then 20 else if 2 * (Vo.count 1 pks 2 1 2 wBill l).yes ≤ 1 * ((Vo.count 1 pks 2 1 2 wBill l).yes + (Vo.count 1 pks 2 1 2 wBill l).no) then 12 else 0 := by
    intro l hl
    unfold Vo.carried
    rw [if_neg (by simp [pks_proper, hd]), if_neg (by omega)]
  rw [cc _ (by simp), cc _ (by simp), cc _ (by simp), cc _ (by simp)]
  unfold Vo.count
  generalize Vo.okv 1 pks 2 1 2 wBill = ok at *
  generalize sv 0 0 true = a at *
  generalize noOf (sv 1 0 true) = f at *
  generalize sv 1 0 true = b at *
  generalize sv 2 0 false = c at *
  generalize sv 0 1 false = o at *
  generalize sv 1 1 false = b1 at *
  have c1 : Vo.cnt ok [a, o, f, b, c] 5 = ⟨[2, 1, 0], 2, 1, [1, 2]⟩ := by simp [Vo.cnt, Vo.step, Vo.counts, oa, ob, oc, oo, of_, fa, fb, fc, fo, ff, ya, yb, yc, yo]
  have c2 : Vo.cnt ok [a, b1] 2 = ⟨[1, 0], 1, 1, []⟩ := by simp [Vo.cnt, Vo.step, Vo.counts, oa, o1, fa, f1, ya, y1]
  have c3 : Vo.cnt ok [a, b, c] 3 = ⟨[2, 1, 0], 2, 1, []⟩ := by simp [Vo.cnt, Vo.step, Vo.counts, oa, ob, oc, fa, fb, fc, ya, yb, yc]
  have c4 : Vo.cnt ok [a, a] 2 = ⟨[0], 1, 0, [1]⟩ := by simp [Vo.cnt, Vo.step, Vo.counts, oa, fa, ya]
  have c5 : Vo.cnt ok [a, o, b] 3 = ⟨[1, 0], 2, 0, [1]⟩ := by simp [Vo.cnt, Vo.step, Vo.counts, oa, ob, oo, fa, fb, fo, ya, yb]
  simp only [List.length_cons, List.length_nil, Nat.zero_add, Nat.reduceAdd, c1, c2, c3, c4, c5]
  unfold headEnd
  rw [if_pos (by decide)]
  unfold pandectref39_Ints.f
  obtain ⟨k, rfl⟩ : ∃ q, k = q + 1 + 1 + 1 := ⟨k - 3, by omega⟩
  rw [if_pos (by decide), pandectref39_Ints.l0, if_pos (by decide), if_pos (by decide), if_pos (by decide), if_pos rfl, show wrap64 (0 + 1) = 1 from IntWalk.wrap64_in _ (by decide), pandectref39_Ints.l0, if_pos (by decide), if_pos (by decide), if_pos (by decide), if_pos rfl, show wrap64 (1 + 1) = 2 from IntWalk.wrap64_in _ (by decide), pandectref39_Ints.l0, if_neg (by decide)]
end Go.Proofs.YtoimnllcniefoaaDoor.P
/- Votes of a moderate size; proper rolls by the reference; the laws VoteOnce and VoteCarries of the printed functions. -/
namespace Go.Proofs.YtoimnllcniefoaaDoor.P
open Go.RowKit Go.Proofs.YtoimnllcniefoaaDoor Go.Proofs.YtoimnllcniefoaaDoorW.PrintWords Go.Proofs.YtoimnllcniefoaaDoorW.PrintLast Go.Proofs.YtoimnllcniefoaaDoorW.PrintMore
set_option linter.unusedVariables false
set_option linter.unusedSimpArgs false

theorem vrd_is (l : List Vo.V) (i : Nat) (h : i < l.length) : rd_T33 l (i : Int) = l[i] := by
  show l.getD (Int.toNat (i : Int)) z33 = l[i]
  rw [Int.toNat_natCast, List.getD_eq_getElem?_getD, List.getElem?_eq_getElem h]; rfl

theorem few1_loop (l : List ByteArray) (hl : l.length ≤ 20) (k : Nat) : ∀ (r i : Nat), i + r = l.length → (∀ x ∈ l.take i, x.size ≤ 60) → ∃ b, pandectref01_Few.l0 (r + 1 + k) l 60 (i : Int) = some b ∧ (b = true → ∀ x ∈ l, x.size ≤ 60) := by
  intro r
  induction r with
  | zero =>
    intro i hi hs
    rw [show 0 + 1 + k = k + 1 by omega, pandectref01_Few.l0, if_neg (by omega)]
    refine ⟨_, rfl, fun _ => ?_⟩
    rwa [List.take_of_length_le (by omega)] at hs
  | succ r ih =>
    intro i hi hs
    rw [show r + 1 + 1 + k = (r + 1 + k) + 1 by omega, pandectref01_Few.l0, if_pos (by omega), if_pos (by omega), rd_lt l i (by omega)]
    by_cases hz : (l[i].size : Int) > 60
    · rw [if_pos hz]; exact ⟨_, rfl, fun h => by cases h⟩
    · rw [if_neg hz, w1 i (by omega)]
      refine ih (i + 1) (by omega) fun x hx => ?_
      rw [List.take_succ_eq_append_getElem (by omega)] at hx
      rcases List.mem_append.1 hx with hx | hx
      · exact hs x hx
      · rw [List.mem_singleton.1 hx]; omega

def FewV (keys : List ByteArray) (l : List Vo.V) (most : Nat) : Prop := l.length ≤ most ∧ keys.length ≤ 10 ∧ (∀ x ∈ keys, x.size ≤ 60) ∧ ∀ v ∈ l, v.f1.size ≤ 100 ∧ v.f4.f1.length ≤ 30 ∧ v.f4.f2.length ≤ 30 ∧ Small v.f4.f1 ∧ Small v.f4.f2

theorem few39_loop (l : List Vo.V) (hl : l.length ≤ 8) (k : Nat) (hk : 200 ≤ k) : ∀ (r i : Nat), i + r = l.length → (∀ v ∈ l.take i, v.f1.size ≤ 100 ∧ v.f4.f1.length ≤ 30 ∧ v.f4.f2.length ≤ 30 ∧ Small v.f4.f1 ∧ Small v.f4.f2) → ∃ b, pandectref39_Few.l0 (r + 1 + k) l (i : Int) = some b ∧ (b = true → ∀ v ∈ l, v.f1.size ≤ 100 ∧ v.f4.f1.length ≤ 30 ∧ v.f4.f2.length ≤ 30 ∧ Small v.f4.f1 ∧ Small v.f4.f2) := by
  intro r
  induction r with
  | zero =>
    intro i hi hs
    rw [show 0 + 1 + k = k + 1 by omega, pandectref39_Few.l0, if_neg (by omega)]
    refine ⟨_, rfl, fun _ => ?_⟩
    rwa [List.take_of_length_le (by omega)] at hs
  | succ r ih =>
    intro i hi hs
    rw [show r + 1 + 1 + k = (r + 1 + k) + 1 by omega, pandectref39_Few.l0, if_pos (by omega), if_pos (by omega), vrd_is l i (by omega)]
    obtain ⟨c, hc, hc2⟩ := few3_is l[i].f4.f0 l[i].f4.f1 l[i].f4.f2 (r + 1 + k) (by omega)
    rw [hc, Option.bind_some]
    cases c with
    | false => rw [if_neg (by simp)]; exact ⟨_, rfl, fun h => by cases h⟩
    | true =>
      rw [if_pos rfl]
      obtain ⟨c1, c2, c3, c4⟩ := hc2 rfl
      by_cases hz : (l[i].f1.size : Int) > 100
      · rw [if_pos hz]; exact ⟨_, rfl, fun h => by cases h⟩
      · rw [if_neg hz, w1 i (by omega)]
        refine ih (i + 1) (by omega) fun x hx => ?_
        rw [List.take_succ_eq_append_getElem (by omega)] at hx
        rcases List.mem_append.1 hx with hx | hx
        · exact hs x hx
        · rw [List.mem_singleton.1 hx]; exact ⟨by omega, c1, c2, c3, c4⟩

theorem fewr_is (ch : Int) (keys : List ByteArray) (q num den : Int) (l : List Vo.V) (k : Nat) (hk : 400 ≤ k) : ∃ b, pandectref39_Few.f k ch keys q num den l 8 = some b ∧ (b = true → FewV keys l 8) := by
  unfold pandectref39_Few.f
  obtain ⟨k, rfl⟩ : ∃ m, k = m + 1 := ⟨k - 1, by omega⟩
  by_cases h1 : (l.length : Int) > 8
  · rw [if_pos h1, pandectref39_Few.j0, if_pos rfl]; exact ⟨_, rfl, fun h => by cases h⟩
  · rw [if_neg h1]
    by_cases h2 : (keys.length : Int) > 10
    · rw [if_pos h2, pandectref39_Few.j0, if_pos rfl]; exact ⟨_, rfl, fun h => by cases h⟩
    · rw [if_neg h2]
      obtain ⟨b, hb, hb2⟩ := few1_loop keys (by omega) (k - keys.length) keys.length 0 (by omega) (by simp)
      rw [show keys.length + 1 + (k - keys.length) = k + 1 by omega] at hb
      unfold pandectref01_Few.f
      rw [show (((0 : Nat) : Int)) = 0 from rfl] at hb
      rw [hb, Option.bind_some]
      cases b with
      | false => rw [pandectref39_Few.j0, if_pos (by decide)]; exact ⟨_, rfl, fun h => by cases h⟩
      | true =>
        rw [pandectref39_Few.j0, if_neg (by simp)]
        obtain ⟨c, hc, hc2⟩ := few39_loop l (by omega) (k - (l.length + 1)) (by omega) l.length 0 (by omega) (by simp)
        rw [show l.length + 1 + (k - (l.length + 1)) = k by omega, show (((0 : Nat) : Int)) = 0 from rfl] at hc
        exact ⟨c, hc, fun h => ⟨by omega, by omega, hb2 rfl, hc2 h⟩⟩
theorem few_is (ch : Int) (keys : List ByteArray) (q num den : Int) (l : List Vo.V) (k : Nat) (hk : 400 ≤ k) : ∃ b, pandectlaw39_few.f k ch keys q num den l = some b ∧ (b = true → FewV keys l 8) := by
  obtain ⟨b, hb, h⟩ := fewr_is ch keys q num den l k hk
  refine ⟨b, ?_, h⟩
  unfold pandectlaw39_few.f
  rw [hb]; rfl

/-! ### VoteCarries -/

end Go.Proofs.YtoimnllcniefoaaDoor.P
