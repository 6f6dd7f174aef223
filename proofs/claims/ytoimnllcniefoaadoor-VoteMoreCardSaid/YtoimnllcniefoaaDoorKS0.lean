import Derived.Test.YtoimnllcniefoaaDoorKD
import Derived.Lib.ItoaMem
set_option linter.unusedVariables false
set_option linter.unusedSimpArgs false
/- The plain law of the Merkle trees: roots, paths and links of lists, what a path and a link prove, and where two digests meet; no program and no memory. -/
namespace Go.Proofs.YtoimnllcniefoaaDoor.Dg
open Go

theorem hexd_mem : ∀ d : Nat, d < 16 → hexset.contains (hexd d) = true := by decide

theorem isD_sum (s : ByteArray) : isD (sum s) = true := by
  have h1 : (sum s).size = 16 := sum_size s
  have h2 : (sum s).data.toList = hex (state s.data.toList) := rfl
  unfold isD
  rw [h1, h2, Bool.and_eq_true]
  refine ⟨rfl, List.all_eq_true.2 fun x hx => ?_⟩
  unfold hex at hx
  obtain ⟨i, _, rfl⟩ := List.mem_map.1 hx
  exact hexd_mem _ (Nat.mod_lt _ (by decide))

theorem isD_list (l : List ByteArray) : isD (list l) = true := isD_sum _

/-- The number that a list of decimal digits reads as. -/
def val (l : List UInt8) : Nat := l.foldl (fun a d => a * 10 + (d.toNat - 48)) 0

theorem digit_toNat (d : Nat) (h : d < 10) : (UInt8.ofNat (48 + d)).toNat = 48 + d := by
  rw [UInt8.toNat_ofNat']
  omega

theorem val_dec (u : Nat) : val (Lib.decDigits u) = u := by
  induction u using Nat.strongRecOn with
  | _ u ih =>
    by_cases h : u < 10
    · rw [Lib.decDigits_one h]
      have := digit_toNat u h
      simp only [val, List.foldl_cons, List.foldl_nil]
      omega
    · rw [Lib.decDigits, dif_neg h]
      have := digit_toNat (u % 10) (Nat.mod_lt _ (by decide))
      have h2 := ih (u / 10) (by omega)
      simp only [val] at h2 ⊢
      rw [List.foldl_append, h2]
      simp only [List.foldl_cons, List.foldl_nil]
      omega

theorem dec_ne (u : Nat) : ∀ d ∈ Lib.decDigits u, d ≠ 58 := by
  induction u using Nat.strongRecOn with
  | _ u ih =>
    intro d hd
    have hk : ∀ i : Nat, i < 10 → UInt8.ofNat (48 + i) ≠ 58 := by decide
    by_cases h : u < 10
    · rw [Lib.decDigits_one h] at hd
      rw [List.mem_singleton.1 hd]
      exact hk u h
    · rw [Lib.decDigits, dif_neg h] at hd
      rcases List.mem_append.1 hd with h1 | h1
      · exact ih (u / 10) (by omega) d h1
      · rw [List.mem_singleton.1 h1]
        exact hk _ (Nat.mod_lt _ (by decide))

theorem split_colon (a b : List UInt8) (x y : List UInt8) (ha : ∀ d ∈ a, d ≠ 58) (hb : ∀ d ∈ b, d ≠ 58) (h : a ++ 58 :: x = b ++ 58 :: y) : a = b ∧ x = y := by
  induction a generalizing b with
  | nil =>
    cases b with
    | nil => simp at h; exact ⟨rfl, h⟩
    | cons c b =>
      simp at h
      exact absurd h.1.symm (hb c (by simp))
  | cons c a ih =>
    cases b with
    | nil =>
      simp at h
      exact absurd h.1 (ha c (by simp))
    | cons d b =>
      simp at h
      obtain ⟨h1, h2⟩ := h
      obtain ⟨h3, h4⟩ := ih b (fun d hd => ha d (by simp [hd])) (fun d hd => hb d (by simp [hd])) h2
      exact ⟨by rw [h1, h3], h4⟩

theorem ba_ext {a b : ByteArray} (h : a.data.toList = b.data.toList) : a = b := ByteArray.ext (Array.toList_inj.1 h)

/-- A text with its length ahead can be read off. -/
theorem piece_inj (a b : ByteArray) (x y : List UInt8) (h : piece a ++ x = piece b ++ y) : a = b ∧ x = y := by
  simp only [piece, Lib.itoa_nonneg, List.append_assoc, List.cons_append] at h
  obtain ⟨h1, h2⟩ := split_colon _ _ _ _ (dec_ne _) (dec_ne _) h
  have hs : a.size = b.size := by
    have := congrArg val h1
    rwa [val_dec, val_dec] at this
  have hl : a.data.toList.length = b.data.toList.length := hs
  obtain ⟨h3, h4⟩ := List.append_inj h2 hl
  exact ⟨ba_ext h3, h4⟩

theorem joinedL_inj (l m : List ByteArray) (hlen : l.length = m.length) (h : joinedL l = joinedL m) : l = m := by
  induction l generalizing m with
  | nil =>
    cases m with
    | nil => rfl
    | cons b m => simp at hlen
  | cons a l ih =>
    cases m with
    | nil => simp at hlen
    | cons b m =>
      simp only [joinedL, List.flatMap_cons] at h
      obtain ⟨h1, h2⟩ := piece_inj a b _ _ h
      rw [h1, ih m (by simpa using hlen) h2]

theorem joined_inj (l m : List ByteArray) (hlen : l.length = m.length) (h : joined l = joined m) : l = m := by
  apply joinedL_inj l m hlen
  have h2 : (joined l).data.toList = (joined m).data.toList := by rw [h]
  exact h2
end Go.Proofs.YtoimnllcniefoaaDoor.Dg

namespace Go.Proofs.YtoimnllcniefoaaDoor.Tr
open Go Go.Proofs.YtoimnllcniefoaaDoor

/-! ### Roots, paths, links -/

theorem take_lt (l : List ByteArray) (h : ¬ l.length ≤ 1) : (l.take (half l.length)).length < l.length := by
  have := half_lt l.length (by omega)
  rw [List.length_take]; omega
theorem drop_lt (l : List ByteArray) (h : ¬ l.length ≤ 1) : (l.drop (half l.length)).length < l.length := by
  have := half_pos l.length
  rw [List.length_drop]; omega

def root (l : List ByteArray) : ByteArray :=
  if l.length = 0 then empty
  else if h : l.length ≤ 1 then leaf (l.getD 0 ByteArray.empty)
  else
    have := take_lt l h
    have := drop_lt l h
    node (root (l.take (half l.length))) (root (l.drop (half l.length)))
termination_by l.length
decreasing_by all_goals assumption

theorem root_zero (l : List ByteArray) (h : l.length = 0) : root l = empty := by rw [root, if_pos h]
theorem root_one (l : List ByteArray) (h : l.length = 1) : root l = leaf (l.getD 0 ByteArray.empty) := by rw [root, if_neg (by omega), dif_pos (by omega)]
theorem root_node (l : List ByteArray) (h : 1 < l.length) : root l = node (root (l.take (half l.length))) (root (l.drop (half l.length))) := by
  rw [root, if_neg (by omega), dif_neg (by omega)]

theorem isD_root (l : List ByteArray) : Dg.isD (root l) = true := by
  rw [root]
  split
  · exact Dg.isD_list _
  · split
    · exact Dg.isD_list _
    · exact Dg.isD_list _

def path (l : List ByteArray) (i : Nat) : List ByteArray :=
  if h : l.length ≤ 1 then []
  else
    have := take_lt l h
    have := drop_lt l h
    if i < half l.length then path (l.take (half l.length)) i ++ [root (l.drop (half l.length))]
    else path (l.drop (half l.length)) (i - half l.length) ++ [root (l.take (half l.length))]
termination_by l.length
decreasing_by all_goals assumption

theorem path_one (l : List ByteArray) (i : Nat) (h : l.length ≤ 1) : path l i = [] := by rw [path, dif_pos h]
theorem path_left (l : List ByteArray) (i : Nat) (h : 1 < l.length) (hi : i < half l.length) : path l i = path (l.take (half l.length)) i ++ [root (l.drop (half l.length))] := by
  rw [path, dif_neg (by omega), if_pos hi]
theorem path_right (l : List ByteArray) (i : Nat) (h : 1 < l.length) (hi : ¬ i < half l.length) : path l i = path (l.drop (half l.length)) (i - half l.length) ++ [root (l.take (half l.length))] := by
  rw [path, dif_neg (by omega), if_neg hi]

/-! ### Lengths and the reference's way up -/

theorem sub_lt_of (n : Nat) (h : ¬ n ≤ 1) : n - half n < n := by have := half_pos n; omega

def len (n i : Nat) : Nat :=
  if h : n ≤ 1 then 0
  else
    have := half_lt n (by omega)
    have := sub_lt_of n h
    if i < half n then 1 + len (half n) i else 1 + len (n - half n) (i - half n)
termination_by n

theorem len_one (n i : Nat) (h : n ≤ 1) : len n i = 0 := by rw [len, dif_pos h]
theorem len_left (n i : Nat) (h : 1 < n) (hi : i < half n) : len n i = 1 + len (half n) i := by rw [len, dif_neg (by omega), if_pos hi]
theorem len_right (n i : Nat) (h : 1 < n) (hi : ¬ i < half n) : len n i = 1 + len (n - half n) (i - half n) := by rw [len, dif_neg (by omega), if_neg hi]

def up (n i : Nat) (d : ByteArray) (p : List ByteArray) : ByteArray :=
  if h : n ≤ 1 then d
  else
    have := half_lt n (by omega)
    have := sub_lt_of n h
    if i < half n then node (up (half n) i d p.dropLast) (last p) else node (last p) (up (n - half n) (i - half n) d p.dropLast)
termination_by n

theorem up_one (n i : Nat) (d : ByteArray) (p : List ByteArray) (h : n ≤ 1) : up n i d p = d := by rw [up, dif_pos h]
theorem up_left (n i : Nat) (d : ByteArray) (p : List ByteArray) (h : 1 < n) (hi : i < half n) : up n i d p = node (up (half n) i d p.dropLast) (last p) := by rw [up, dif_neg (by omega), if_pos hi]
theorem up_right (n i : Nat) (d : ByteArray) (p : List ByteArray) (h : 1 < n) (hi : ¬ i < half n) : up n i d p = node (last p) (up (n - half n) (i - half n) d p.dropLast) := by rw [up, dif_neg (by omega), if_neg hi]

theorem last_snoc (l : List ByteArray) (x : ByteArray) : last (l ++ [x]) = x := by simp [last]

theorem proper_dropLast (l : List ByteArray) (h : proper l = true) : proper l.dropLast = true := by
  unfold proper at h ⊢
  rw [List.all_eq_true] at h ⊢
  exact fun x hx => h x ((List.dropLast_sublist l).subset hx)

theorem proper_last (l : List ByteArray) (h : proper l = true) (h0 : 0 < l.length) : ((last l).size == 0) = false := by
  have hl : l ≠ [] := by intro e; subst e; simp at h0
  have h1 : last l = l.getLast hl := by simp [last, List.getLast?_eq_some_getLast hl]
  unfold proper at h
  have h2 := List.all_eq_true.1 h _ (List.getLast_mem hl)
  rw [h1]
  unfold Dg.isD at h2
  rw [Bool.and_eq_true, beq_iff_eq] at h2
  rw [h2.1]; rfl

theorem last_empty (l : List ByteArray) (h : l.length = 0) : ((last l).size == 0) = true := by
  rw [List.eq_nil_of_length_eq_zero h]; rfl

theorem ckUp_true (f : Nat) : ∀ (n i : Nat) (x : ByteArray) (l : List ByteArray), (ckUp f n i x l true).2.2 = true := by
  induction f with
  | zero => intros; rfl
  | succ f ih =>
    intro n i x l
    simp only [ckUp, Bool.true_or]
    split
    · rfl
    · split
      · exact ih _ _ _ _
      · exact ih _ _ _ _

/-- The way up with a path that is long enough. -/
theorem ckUp_long (x : ByteArray) (f : Nat) : ∀ (n i : Nat) (l : List ByteArray) (s : Bool), n ≤ f → 1 ≤ n → i < n → proper l = true → len n i ≤ l.length →
    (ckUp f n i x l s).1 = up n i (leaf x) l ∧ (ckUp f n i x l s).2.1.length = l.length - len n i ∧ (ckUp f n i x l s).2.2 = s := by
  induction f with
  | zero => intro n i l s h1 h2; omega
  | succ f ih =>
    intro n i l s hf hn hi hp hl
    by_cases h1 : n ≤ 1
    · simp only [ckUp, if_pos h1]
      rw [up_one _ _ _ _ h1, len_one _ _ h1]
      simp
    · have h2 := half_lt n (by omega)
      have h3 := half_pos n
      by_cases hh : i < half n
      · rw [len_left n i (by omega) hh] at hl ⊢
        rw [up_left n i _ _ (by omega) hh]
        simp only [ckUp, if_neg h1, if_pos hh]
        rw [proper_last l hp (by omega), Bool.or_false]
        obtain ⟨e1, e2, e3⟩ := ih (half n) i l.dropLast s (by omega) h3 hh (proper_dropLast l hp) (by rw [List.length_dropLast]; omega)
        rw [e1, e2, e3, List.length_dropLast]
        exact ⟨rfl, by omega, rfl⟩
      · rw [len_right n i (by omega) hh] at hl ⊢
        rw [up_right n i _ _ (by omega) hh]
        simp only [ckUp, if_neg h1, if_neg hh]
        rw [proper_last l hp (by omega), Bool.or_false]
        obtain ⟨e1, e2, e3⟩ := ih (n - half n) (i - half n) l.dropLast s (by omega) (by omega) (by omega) (proper_dropLast l hp) (by rw [List.length_dropLast]; omega)
        rw [e1, e2, e3, List.length_dropLast]
        exact ⟨rfl, by omega, rfl⟩

/-- The way up with a path that is too short. -/
theorem ckUp_short (x : ByteArray) (f : Nat) : ∀ (n i : Nat) (l : List ByteArray) (s : Bool), n ≤ f → 1 ≤ n → i < n → l.length < len n i → (ckUp f n i x l s).2.2 = true := by
  induction f with
  | zero => intro n i l s h1 h2; omega
  | succ f ih =>
    intro n i l s hf hn hi hl
    by_cases h1 : n ≤ 1
    · rw [len_one _ _ h1] at hl; omega
    · have h2 := half_lt n (by omega)
      have h3 := half_pos n
      by_cases h0 : l.length = 0
      · simp only [ckUp, if_neg h1]
        rw [last_empty l h0, Bool.or_true]
        split
        · exact ckUp_true _ _ _ _ _
        · exact ckUp_true _ _ _ _ _
      · by_cases hh : i < half n
        · rw [len_left n i (by omega) hh] at hl
          simp only [ckUp, if_neg h1, if_pos hh]
          exact ih (half n) i l.dropLast _ (by omega) h3 hh (by rw [List.length_dropLast]; omega)
        · rw [len_right n i (by omega) hh] at hl
          simp only [ckUp, if_neg h1, if_neg hh]
          exact ih (n - half n) (i - half n) l.dropLast _ (by omega) (by omega) (by omega) (by rw [List.length_dropLast]; omega)

/-- Check as the reference reads it. -/
theorem check_eq (r : ByteArray) (n i : Nat) (x : ByteArray) (p : List ByteArray) (h1 : n ≤ 1000000) (h2 : i < n) (hp : proper p = true) :
    check r n i x p = (decide (p.length = len n i) && decide (up n i (leaf x) p = r)) := by
  unfold check
  rw [if_neg (by rw [hp]; simp; omega)]
  simp only [Int.toNat_natCast]
  rcases Nat.lt_or_ge p.length (len n i) with h | h
  · rw [ckUp_short x n n i p false (Nat.le_refl _) (by omega) h2 h, decide_eq_false (show ¬ p.length = len n i by omega)]
    simp
  · obtain ⟨e1, e2, e3⟩ := ckUp_long x n n i p false (Nat.le_refl _) (by omega) h2 hp h
    simp only [e1, e2, e3]
    by_cases hl : p.length = len n i
    · rw [decide_eq_true hl, hl]; simp
    · rw [decide_eq_false hl]
      have : ((p.length - len n i == 0) : Bool) = false := by rw [beq_eq_false_iff_ne]; omega
      rw [this]; simp

/-! ### Links -/

def long (n m : Nat) (whole : Bool) : Nat :=
  if m = n then if whole then 0 else 1
  else if h : n ≤ 1 then 0
  else
    have := half_lt n (by omega)
    have := sub_lt_of n h
    if m ≤ half n then 1 + long (half n) m whole else 1 + long (n - half n) (m - half n) false
termination_by n

end Go.Proofs.YtoimnllcniefoaaDoor.Tr
/- The plain law of the Merkle trees, second part: what a path proves, what equal roots show, what a link proves. -/
namespace Go.Proofs.YtoimnllcniefoaaDoor.Tr
open Go Go.Proofs.YtoimnllcniefoaaDoor

theorem list_ind {P : List ByteArray → Prop} (h : ∀ l : List ByteArray, (1 < l.length → P (l.take (half l.length)) ∧ P (l.drop (half l.length))) → P l) (l : List ByteArray) : P l := by
  generalize hn : l.length = n
  induction n using Nat.strongRecOn generalizing l with
  | _ n ih =>
    refine h l fun h1 => ⟨?_, ?_⟩
    · exact ih _ (by have := take_lt l (by omega); omega) _ rfl
    · exact ih _ (by have := drop_lt l (by omega); omega) _ rfl

theorem take_len (l : List ByteArray) (h : 1 < l.length) : (l.take (half l.length)).length = half l.length := by
  have := half_lt l.length h
  rw [List.length_take]; omega
theorem drop_len (l : List ByteArray) : (l.drop (half l.length)).length = l.length - half l.length := List.length_drop

theorem getD_take (l : List ByteArray) (k i : Nat) (h : i < k) : (l.take k).getD i ByteArray.empty = l.getD i ByteArray.empty := by
  rw [List.getD_eq_getElem?_getD, List.getD_eq_getElem?_getD, List.getElem?_take_of_lt h]
theorem getD_drop (l : List ByteArray) (k i : Nat) (h : k ≤ i) : (l.drop k).getD (i - k) ByteArray.empty = l.getD i ByteArray.empty := by
  rw [List.getD_eq_getElem?_getD, List.getD_eq_getElem?_getD, List.getElem?_drop]
  congr 2; omega

/-! ### A path proves its element -/

theorem path_length (l : List ByteArray) : ∀ i, (path l i).length = len l.length i := by
  induction l using list_ind with
  | h l ih =>
    intro i
    by_cases h1 : l.length ≤ 1
    · rw [path_one l i h1, len_one _ _ h1]; rfl
    · obtain ⟨ia, ib⟩ := ih (by omega)
      by_cases hi : i < half l.length
      · rw [path_left l i (by omega) hi, len_left _ _ (by omega) hi, List.length_append, ia, take_len l (by omega)]
        simp; omega
      · rw [path_right l i (by omega) hi, len_right _ _ (by omega) hi, List.length_append, ib, drop_len]
        simp; omega

theorem proper_snoc (p : List ByteArray) (x : ByteArray) (hp : proper p = true) (hx : Dg.isD x = true) : proper (p ++ [x]) = true := by
  unfold proper at hp ⊢
  rw [List.all_append, hp]
  simp [hx]

theorem path_proper (l : List ByteArray) : ∀ i, proper (path l i) = true := by
  induction l using list_ind with
  | h l ih =>
    intro i
    by_cases h1 : l.length ≤ 1
    · rw [path_one l i h1]; rfl
    · obtain ⟨ia, ib⟩ := ih (by omega)
      by_cases hi : i < half l.length
      · rw [path_left l i (by omega) hi]; exact proper_snoc _ _ (ia i) (isD_root _)
      · rw [path_right l i (by omega) hi]; exact proper_snoc _ _ (ib _) (isD_root _)

theorem up_path (l : List ByteArray) : ∀ i, i < l.length → up l.length i (leaf (l.getD i ByteArray.empty)) (path l i) = root l := by
  induction l using list_ind with
  | h l ih =>
    intro i hl
    by_cases h1 : l.length ≤ 1
    · have : i = 0 := by omega
      subst this
      rw [up_one _ _ _ _ h1, root_one l (by omega)]
    · obtain ⟨ia, ib⟩ := ih (by omega)
      by_cases hi : i < half l.length
      · have e := ia i (by rw [take_len l (by omega)]; exact hi)
        rw [take_len l (by omega), getD_take _ _ _ hi] at e
        rw [path_left l i (by omega) hi, up_left _ _ _ _ (by omega) hi, List.dropLast_concat, last_snoc, root_node l (by omega), e]
      · have e := ib (i - half l.length) (by rw [drop_len]; omega)
        rw [drop_len, getD_drop _ _ _ (by omega)] at e
        rw [path_right l i (by omega) hi, up_right _ _ _ _ (by omega) hi, List.dropLast_concat, last_snoc, root_node l (by omega), e]

/-- How many binary digits a number below 32 has. -/
def digsF : Nat → Nat → Nat
  | 0, _ => 0
  | f + 1, n => if n = 0 then 0 else 1 + digsF f (n / 2)
def digs (n : Nat) : Nat := digsF 5 n

/-! ### What is digested -/

def texts (l : List ByteArray) : List ByteArray :=
  if l.length = 0 then [Dg.joined [wEmpty]]
  else if h : l.length ≤ 1 then [Dg.joined [wLeaf, l.getD 0 ByteArray.empty]]
  else
    have := take_lt l h
    have := drop_lt l h
    texts (l.take (half l.length)) ++ texts (l.drop (half l.length)) ++ [Dg.joined [wNode, root (l.take (half l.length)), root (l.drop (half l.length))]]
termination_by l.length
decreasing_by all_goals assumption

theorem texts_one (l : List ByteArray) (h : l.length = 1) : texts l = [Dg.joined [wLeaf, l.getD 0 ByteArray.empty]] := by rw [texts, if_neg (by omega), dif_pos (by omega)]
theorem texts_node (l : List ByteArray) (h : 1 < l.length) : texts l = texts (l.take (half l.length)) ++ texts (l.drop (half l.length)) ++ [Dg.joined [wNode, root (l.take (half l.length)), root (l.drop (half l.length))]] := by
  rw [texts, if_neg (by omega), dif_neg (by omega)]

def pathTexts (n i : Nat) (s : ByteArray) (p : List ByteArray) : List ByteArray :=
  if h : n ≤ 1 then [Dg.joined [wLeaf, s]]
  else
    have := half_lt n (by omega)
    have := sub_lt_of n h
    if i < half n then pathTexts (half n) i s p.dropLast ++ [Dg.joined [wNode, up (half n) i (leaf s) p.dropLast, last p]]
    else pathTexts (n - half n) (i - half n) s p.dropLast ++ [Dg.joined [wNode, last p, up (n - half n) (i - half n) (leaf s) p.dropLast]]
termination_by n

theorem pathTexts_one (n i : Nat) (s : ByteArray) (p : List ByteArray) (h : n ≤ 1) : pathTexts n i s p = [Dg.joined [wLeaf, s]] := by rw [pathTexts, dif_pos h]
theorem pathTexts_left (n i : Nat) (s : ByteArray) (p : List ByteArray) (h : 1 < n) (hi : i < half n) : pathTexts n i s p = pathTexts (half n) i s p.dropLast ++ [Dg.joined [wNode, up (half n) i (leaf s) p.dropLast, last p]] := by
  rw [pathTexts, dif_neg (by omega), if_pos hi]
theorem pathTexts_right (n i : Nat) (s : ByteArray) (p : List ByteArray) (h : 1 < n) (hi : ¬ i < half n) : pathTexts n i s p = pathTexts (n - half n) (i - half n) s p.dropLast ++ [Dg.joined [wNode, last p, up (n - half n) (i - half n) (leaf s) p.dropLast]] := by
  rw [pathTexts, dif_neg (by omega), if_neg hi]

/-- Two different strings with one digest, one of each list. -/
def Coll (a b : List ByteArray) : Prop := ∃ x ∈ a, ∃ y ∈ b, x ≠ y ∧ Dg.sum x = Dg.sum y

theorem Coll.mono {a b c d : List ByteArray} (h : Coll a b) (h1 : ∀ x ∈ a, x ∈ c) (h2 : ∀ x ∈ b, x ∈ d) : Coll c d := by
  obtain ⟨x, hx, y, hy, h⟩ := h
  exact ⟨x, h1 x hx, y, h2 y hy, h⟩

/-- Two nodes with one digest: the same two strings, or a collision. -/
theorem node_coll (a b c d : ByteArray) (h : node a b = node c d) : (a = c ∧ b = d) ∨ (Dg.joined [wNode, a, b] ≠ Dg.joined [wNode, c, d] ∧ Dg.sum (Dg.joined [wNode, a, b]) = Dg.sum (Dg.joined [wNode, c, d])) := by
  by_cases he : Dg.joined [wNode, a, b] = Dg.joined [wNode, c, d]
  · have := Dg.joined_inj _ _ (by rfl) he
    simp only [List.cons.injEq, and_true, true_and] at this
    exact .inl this
  · exact .inr ⟨he, h⟩

theorem leaf_coll (a c : ByteArray) (hne : a ≠ c) (h : leaf a = leaf c) : Dg.joined [wLeaf, a] ≠ Dg.joined [wLeaf, c] ∧ Dg.sum (Dg.joined [wLeaf, a]) = Dg.sum (Dg.joined [wLeaf, c]) := by
  refine ⟨fun he => hne ?_, h⟩
  have := Dg.joined_inj _ _ (by rfl) he
  simp only [List.cons.injEq, and_true, true_and] at this
  exact this

/-! ### A path that proves another element shows a collision -/

theorem binds (l : List ByteArray) : ∀ i s p, i < l.length → s ≠ l.getD i ByteArray.empty → up l.length i (leaf s) p = root l → Coll (texts l) (pathTexts l.length i s p) := by
  induction l using list_ind with
  | h l ih =>
    intro i s p hl hs hu
    by_cases h1 : l.length ≤ 1
    · have : i = 0 := by omega
      subst this
      rw [up_one _ _ _ _ h1, root_one l (by omega)] at hu
      rw [texts_one l (by omega), pathTexts_one _ _ _ _ h1]
      obtain ⟨c1, c2⟩ := leaf_coll _ _ hs hu
      exact ⟨_, by simp, _, by simp, fun e => c1 e.symm, c2.symm⟩
    · obtain ⟨ia, ib⟩ := ih (by omega)
      rw [texts_node l (by omega)]
      by_cases hi : i < half l.length
      · rw [pathTexts_left _ _ _ _ (by omega) hi]
        rw [up_left _ _ _ _ (by omega) hi, root_node l (by omega)] at hu
        rcases node_coll _ _ _ _ hu with ⟨e1, e2⟩ | ⟨c1, c2⟩
        · have := ia i s p.dropLast (by rw [take_len l (by omega)]; exact hi) (by rw [getD_take _ _ _ hi]; exact hs) (by rw [take_len l (by omega)]; exact e1)
          rw [take_len l (by omega)] at this
          exact this.mono (fun x hx => by simp [hx]) (fun x hx => by simp [hx])
        · exact ⟨_, List.mem_append_right _ (List.mem_singleton.2 rfl), _, List.mem_append_right _ (List.mem_singleton.2 rfl), fun e => c1 e.symm, c2.symm⟩
      · rw [pathTexts_right _ _ _ _ (by omega) hi]
        rw [up_right _ _ _ _ (by omega) hi, root_node l (by omega)] at hu
        rcases node_coll _ _ _ _ hu with ⟨e1, e2⟩ | ⟨c1, c2⟩
        · have := ib (i - half l.length) s p.dropLast (by rw [drop_len]; omega) (by rw [getD_drop _ _ _ (by omega)]; exact hs) (by rw [drop_len]; exact e2)
          rw [drop_len] at this
          exact this.mono (fun x hx => by simp [hx]) (fun x hx => by simp [hx])
        · exact ⟨_, List.mem_append_right _ (List.mem_singleton.2 rfl), _, List.mem_append_right _ (List.mem_singleton.2 rfl), fun e => c1 e.symm, c2.symm⟩

/-! ### Equal roots of different lists show a collision -/

theorem roots (a : List ByteArray) : ∀ b, a.length = b.length → a ≠ b → root a = root b → Coll (texts a) (texts b) := by
  induction a using list_ind with
  | h a ih =>
    intro b hlen hne hr
    by_cases h0 : a.length = 0
    · exact absurd ((List.eq_nil_of_length_eq_zero h0).trans (List.eq_nil_of_length_eq_zero (hlen ▸ h0)).symm) hne
    · by_cases h1 : a.length ≤ 1
      · rw [root_one a (by omega), root_one b (by omega)] at hr
        rw [texts_one a (by omega), texts_one b (by omega)]
        obtain ⟨x, hx⟩ := List.length_eq_one_iff.1 (show a.length = 1 by omega)
        obtain ⟨y, hy⟩ := List.length_eq_one_iff.1 (show b.length = 1 by omega)
        subst hx; subst hy
        obtain ⟨c1, c2⟩ := leaf_coll x y (fun e => hne (by rw [e])) hr
        exact ⟨_, List.mem_singleton.2 rfl, _, List.mem_singleton.2 rfl, c1, c2⟩
      · obtain ⟨ia, ib⟩ := ih (by omega)
        rw [root_node a (by omega), root_node b (by omega)] at hr
        rw [texts_node a (by omega), texts_node b (by omega)]
        rcases node_coll _ _ _ _ hr with ⟨e1, e2⟩ | ⟨c1, c2⟩
        · by_cases hh : a.take (half a.length) = b.take (half b.length)
          · have hd : a.drop (half a.length) ≠ b.drop (half b.length) := fun hd => hne (by rw [← List.take_append_drop (half a.length) a, ← List.take_append_drop (half b.length) b, hh, hd])
            have := ib (b.drop (half b.length)) (by rw [List.length_drop, List.length_drop, hlen]) hd e2
            exact this.mono (fun x hx => by simp [hx]) (fun x hx => by simp [hx])
          · have := ia (b.take (half b.length)) (by rw [List.length_take, List.length_take, hlen]) hh e1
            exact this.mono (fun x hx => by simp [hx]) (fun x hx => by simp [hx])
        · exact ⟨_, List.mem_append_right _ (List.mem_singleton.2 rfl), _, List.mem_append_right _ (List.mem_singleton.2 rfl), c1, c2⟩

/-! ### A link proves its beginning -/

/-! ### A link that proves another beginning shows a collision -/

end Go.Proofs.YtoimnllcniefoaaDoor.Tr
/- The plain law of the seals: digits and chains, what a seal that is accepted shows, and where two digests meet; no program and no memory. -/
namespace Go.Proofs.YtoimnllcniefoaaDoor.Sl
open Go Go.Proofs.YtoimnllcniefoaaDoor Go.Proofs.YtoimnllcniefoaaDoor.Tr

/-! ### Chains -/

def chain : Nat → ByteArray → ByteArray
  | 0, s => s
  | n + 1, s => chain n (Dg.sum s)

theorem chain_add (m : Nat) : ∀ (n : Nat) (s : ByteArray), chain (m + n) s = chain m (chain n s) := by
  intro n
  induction n with
  | zero => intro s; rfl
  | succ n ih => intro s; exact ih (Dg.sum s)

theorem chain_succ (n : Nat) (s : ByteArray) : chain (n + 1) s = Dg.sum (chain n s) := by
  rw [Nat.add_comm]; exact chain_add 1 n s

theorem chain_size (n : Nat) (s : ByteArray) (h : s.size = 16) : (chain n s).size = 16 := by
  cases n with
  | zero => exact h
  | succ n => rw [chain_succ]; exact Dg.sum_size _

theorem chain_isD (n : Nat) (s : ByteArray) (h : Dg.isD s = true) : Dg.isD (chain n s) = true := by
  cases n with
  | zero => exact h
  | succ n => rw [chain_succ]; exact Dg.isD_sum _

theorem no_colon (s : ByteArray) (h : Dg.isD s = true) : (58 : UInt8) ∉ s.data.toList := by
  intro hm
  unfold Dg.isD at h
  rw [Bool.and_eq_true] at h
  have := List.all_eq_true.1 h.2 58 hm
  revert this
  decide

/-- A chain that comes back to itself: two digests meet, at the text of its start at the latest. -/
theorem chain_cycle (st : ByteArray) (hst : (58 : UInt8) ∈ st.data.toList) (t : Nat) (ht : 0 < t) : ∀ n, chain (n + t) (Dg.sum st) = chain n (Dg.sum st) →
    (st ≠ chain (t - 1) (Dg.sum st) ∧ Dg.sum st = Dg.sum (chain (t - 1) (Dg.sum st))) ∨ ∃ j, j < n ∧ chain (j + t) (Dg.sum st) ≠ chain j (Dg.sum st) ∧ Dg.sum (chain (j + t) (Dg.sum st)) = Dg.sum (chain j (Dg.sum st)) := by
  intro n
  induction n with
  | zero =>
    intro h
    refine .inl ⟨fun e => ?_, ?_⟩
    · exact no_colon _ (chain_isD (t - 1) _ (Dg.isD_sum st)) (e ▸ hst)
    · rw [← chain_succ, show t - 1 + 1 = 0 + t by omega, h]; rfl
  | succ n ih =>
    intro h
    rw [show n + 1 + t = (n + t) + 1 by omega, chain_succ, chain_succ] at h
    by_cases e : chain (n + t) (Dg.sum st) = chain n (Dg.sum st)
    · rcases ih e with h1 | ⟨j, hj, h2⟩
      · exact .inl h1
      · exact .inr ⟨j, by omega, h2⟩
    · exact .inr ⟨n, by omega, e, h⟩

/-! ### Digits -/

def hv (c : UInt8) : Nat := Dg.hexset.idxOf c

def dl (m : ByteArray) : List Nat := (Dg.sum m).data.toList.map hv

def rest : List Nat → Nat
  | [] => 0
  | d :: l => (15 - d) + rest l

def digs (m : ByteArray) : List Nat := dl m ++ [rest (dl m) / 16, rest (dl m) % 16]

theorem hv_lt (c : UInt8) (h : Dg.hexset.contains c = true) : hv c < 16 := by
  have : c ∈ Dg.hexset := by simpa using h
  have := List.idxOf_lt_length_of_mem this
  exact this

theorem hv_inj (a b : UInt8) (ha : Dg.hexset.contains a = true) (h : hv a = hv b) : a = b := by
  have hb : hv b < 16 := h ▸ hv_lt a ha
  have h1 : Dg.hexset[hv a]'(hv_lt a ha) = a := List.getElem_idxOf _
  have h2 : Dg.hexset[hv b]'hb = b := List.getElem_idxOf _
  rw [← h1, ← h2]
  congr 1

theorem map_hv_inj : ∀ (l m : List UInt8), l.all (Dg.hexset.contains ·) = true → l.map hv = m.map hv → l = m := by
  intro l
  induction l with
  | nil => intro m _ h; cases m with | nil => rfl | cons y m => simp at h
  | cons x l ih =>
    intro m hl h
    cases m with
    | nil => simp at h
    | cons y m =>
      rw [List.all_cons, Bool.and_eq_true] at hl
      simp only [List.map_cons, List.cons.injEq] at h
      rw [hv_inj x y hl.1 h.1, ih m hl.2 h.2]

theorem sum_all (m : ByteArray) : (Dg.sum m).data.toList.all (Dg.hexset.contains ·) = true := by
  have := Dg.isD_sum m
  unfold Dg.isD at this
  rw [Bool.and_eq_true] at this
  exact this.2

theorem dl_length (m : ByteArray) : (dl m).length = 16 := by
  unfold dl
  rw [List.length_map]
  exact Dg.sum_size m

theorem dl_lt (m : ByteArray) : ∀ d ∈ dl m, d ≤ 15 := by
  intro d hd
  obtain ⟨c, hc, rfl⟩ := List.mem_map.1 hd
  have := hv_lt c (List.all_eq_true.1 (sum_all m) c hc)
  omega

theorem dl_inj (m o : ByteArray) (h : dl m = dl o) : Dg.sum m = Dg.sum o :=
  ByteArray.ext (Array.toList_inj.1 (map_hv_inj _ _ (sum_all m) h))

theorem rest_le : ∀ l : List Nat, rest l ≤ 15 * l.length := by
  intro l
  induction l with
  | nil => exact Nat.le_refl _
  | cons d l ih => simp only [rest, List.length_cons]; omega

theorem rest_dl (m : ByteArray) : rest (dl m) ≤ 240 := by
  have := rest_le (dl m)
  rw [dl_length] at this
  omega

theorem digs_lt (m : ByteArray) : ∀ d ∈ digs m, d ≤ 15 := by
  intro d hd
  have hr := rest_dl m
  unfold digs at hd
  rcases List.mem_append.1 hd with h | h
  · exact dl_lt m d h
  · clear hd
    generalize rest (dl m) = R at h hr
    simp only [List.mem_cons, List.not_mem_nil, or_false] at h
    rcases h with h | h <;> omega

/-- The k-th digit. -/
def dg (m : ByteArray) (k : Nat) : Nat := (digs m).getD k 0

theorem dg_le (m : ByteArray) (k : Nat) : dg m k ≤ 15 := by
  unfold dg
  rw [List.getD_eq_getElem?_getD]
  cases h : (digs m)[k]? with
  | none => exact Nat.zero_le _
  | some d => exact digs_lt m d (List.mem_of_getElem? h)

theorem rest_cmp : ∀ a b : List Nat, a.length = b.length → (∀ d ∈ b, d ≤ 15) → (∃ k, k < a.length ∧ b.getD k 0 < a.getD k 0) ∨ (rest b ≤ rest a ∧ (rest b = rest a → a = b)) := by
  intro a
  induction a with
  | nil =>
    intro b hb _
    cases b with
    | nil => exact .inr ⟨Nat.le_refl _, fun _ => rfl⟩
    | cons y b => simp at hb
  | cons x a ih =>
    intro b hb hl
    cases b with
    | nil => simp at hb
    | cons y b =>
      have hy : y ≤ 15 := hl y (List.mem_cons_self ..)
      by_cases hxy : y < x
      · exact .inl ⟨0, by simp, by simpa using hxy⟩
      · rcases ih b (by simpa using hb) (fun d hd => hl d (List.mem_cons_of_mem _ hd)) with ⟨k, hk, h⟩ | ⟨h1, h2⟩
        · exact .inl ⟨k + 1, by simpa using hk, by simpa using h⟩
        · refine .inr ⟨by simp only [rest]; omega, fun e => ?_⟩
          simp only [rest] at e
          rw [h2 (by omega), show x = y by omega]

/-- Of two texts with different digests, each one has a digit that is greater. -/
theorem dg_less (m o : ByteArray) (h : Dg.sum m ≠ Dg.sum o) : ∃ k, k < 18 ∧ dg o k < dg m k := by
  rcases rest_cmp (dl m) (dl o) (by rw [dl_length, dl_length]) (dl_lt o) with ⟨k, hk, h1⟩ | ⟨h1, h2⟩
  · rw [dl_length] at hk
    refine ⟨k, by omega, ?_⟩
    unfold dg digs
    rw [List.getD_eq_getElem?_getD, List.getD_eq_getElem?_getD] at h1 ⊢
    rw [List.getElem?_append_left (by rw [dl_length]; exact hk), List.getElem?_append_left (by rw [dl_length]; exact hk)]
    exact h1
  · have h3 : rest (dl o) < rest (dl m) := by
      rcases Nat.lt_or_ge (rest (dl o)) (rest (dl m)) with h3 | h3
      · exact h3
      · exact absurd (dl_inj _ _ (h2 (by omega))) h
    have d16 : ∀ x, dg x 16 = rest (dl x) / 16 := fun x => by
      unfold dg digs
      rw [List.getD_eq_getElem?_getD, List.getElem?_append_right (by rw [dl_length]; omega), dl_length]; rfl
    have d17 : ∀ x, dg x 17 = rest (dl x) % 16 := fun x => by
      unfold dg digs
      rw [List.getD_eq_getElem?_getD, List.getElem?_append_right (by rw [dl_length]; omega), dl_length]; rfl
    by_cases h4 : rest (dl o) / 16 < rest (dl m) / 16
    · exact ⟨16, by omega, by rw [d16, d16]; exact h4⟩
    · exact ⟨17, by omega, by rw [d17, d17]; omega⟩

/-! ### Keys -/

def dec (n : Nat) : ByteArray := ⟨(Lib.itoa (n : Int)).toArray⟩

def startText (secret : ByteArray) (i k : Nat) : ByteArray := Dg.joined [secret, dec i, dec k]
def start (secret : ByteArray) (i k : Nat) : ByteArray := Dg.list [secret, dec i, dec k]
def ends (secret : ByteArray) (i : Nat) : List ByteArray := (List.range 18).map fun k => chain 15 (start secret i k)
def key (secret : ByteArray) (i : Nat) : ByteArray := Dg.list (ends secret i)
def keys (secret : ByteArray) (h : Nat) : List ByteArray := (List.range (2 ^ h)).map (key secret)
def sigOf (secret : ByteArray) (i : Nat) (m : ByteArray) : List ByteArray := (List.range 18).map fun k => chain (dg m k) (start secret i k)
def fins (m : ByteArray) (sig : List ByteArray) : List ByteArray := (List.range 18).map fun k => chain (15 - dg m k) (sig.getD k ByteArray.empty)

theorem start_sum (secret : ByteArray) (i k : Nat) : start secret i k = Dg.sum (startText secret i k) := rfl

theorem ends_length (secret : ByteArray) (i : Nat) : (ends secret i).length = 18 := by simp [ends]
theorem fins_length (m : ByteArray) (sig : List ByteArray) : (fins m sig).length = 18 := by simp [fins]
theorem sigOf_length (secret : ByteArray) (i : Nat) (m : ByteArray) : (sigOf secret i m).length = 18 := by simp [sigOf]
theorem keys_length (secret : ByteArray) (h : Nat) : (keys secret h).length = 2 ^ h := by simp [keys]

theorem getD_range_map (f : Nat → ByteArray) (n k : Nat) (h : k < n) : ((List.range n).map f).getD k ByteArray.empty = f k := by
  rw [List.getD_eq_getElem?_getD, List.getElem?_map, List.getElem?_range h]; rfl

theorem keys_get (secret : ByteArray) (h i : Nat) (hi : i < 2 ^ h) : (keys secret h).getD i ByteArray.empty = key secret i := getD_range_map _ _ _ hi
theorem sigOf_get (secret : ByteArray) (i : Nat) (m : ByteArray) (k : Nat) (hk : k < 18) : (sigOf secret i m).getD k ByteArray.empty = chain (dg m k) (start secret i k) := getD_range_map _ _ _ hk
theorem fins_get (m : ByteArray) (sig : List ByteArray) (k : Nat) (hk : k < 18) : (fins m sig).getD k ByteArray.empty = chain (15 - dg m k) (sig.getD k ByteArray.empty) := getD_range_map _ _ _ hk
theorem ends_get (secret : ByteArray) (i : Nat) (k : Nat) (hk : k < 18) : (ends secret i).getD k ByteArray.empty = chain 15 (start secret i k) := getD_range_map _ _ _ hk

theorem list_ext_getD (a b : List ByteArray) (n : Nat) (ha : a.length = n) (hb : b.length = n) (h : ∀ k, k < n → a.getD k ByteArray.empty = b.getD k ByteArray.empty) : a = b := by
  apply List.ext_getElem (by rw [ha, hb])
  intro k h1 h2
  have := h k (by omega)
  rw [List.getD_eq_getElem?_getD, List.getD_eq_getElem?_getD, List.getElem?_eq_getElem h1, List.getElem?_eq_getElem h2] at this
  exact this

/-- A seal's chains end where the key's chains end. -/
theorem fins_sigOf (secret : ByteArray) (i : Nat) (m : ByteArray) : fins m (sigOf secret i m) = ends secret i := by
  apply list_ext_getD _ _ 18 (fins_length _ _) (ends_length _ _)
  intro k hk
  rw [fins_get _ _ _ hk, sigOf_get _ _ _ _ hk, ends_get _ _ _ hk, ← chain_add]
  have := dg_le m k
  congr 1
  omega

theorem start_colon (secret : ByteArray) (i k : Nat) : (58 : UInt8) ∈ (startText secret i k).data.toList := by
  unfold startText Dg.joined
  simp [Dg.joinedL, Dg.piece]

theorem start_isD (secret : ByteArray) (i k : Nat) : Dg.isD (start secret i k) = true := Dg.isD_list _

theorem sigOf_isD (secret : ByteArray) (i : Nat) (m : ByteArray) : proper (sigOf secret i m) = true := by
  unfold proper sigOf
  rw [List.all_eq_true]
  intro x hx
  obtain ⟨k, _, rfl⟩ := List.mem_map.1 hx
  exact chain_isD _ _ (start_isD ..)

/-! ### Trees of a power of two -/

theorem half_two : ∀ h, h ≤ 8 → half (2 ^ (h + 1)) = 2 ^ h := by decide +kernel

theorem len_two : ∀ h, h ≤ 9 → ∀ i, i < 2 ^ h → len (2 ^ h) i = h := by
  intro h
  induction h with
  | zero => intro _ i _; exact len_one _ _ (by decide)
  | succ h ih =>
    intro h8 i hi
    have h1 := half_two h (by omega)
    have h2 : 2 ^ (h + 1) = 2 ^ h + 2 ^ h := by rw [Nat.pow_succ]; omega
    have h3 : 0 < 2 ^ h := Nat.pos_of_ne_zero (by simp)
    by_cases hl : i < 2 ^ h
    · rw [len_left _ _ (by omega) (by rw [h1]; exact hl), h1, ih (by omega) i hl]; omega
    · rw [len_right _ _ (by omega) (by rw [h1]; exact hl), h1, show 2 ^ (h + 1) - 2 ^ h = 2 ^ h by omega, ih (by omega) _ (by omega)]; omega

theorem joined_leaf_node (s a b : ByteArray) : Dg.joined [wLeaf, s] ≠ Dg.joined [wNode, a, b] := by
  intro h
  have h1 : Dg.joinedL [wLeaf, s] = Dg.joinedL [wNode, a, b] := by
    have h2 : (Dg.joined [wLeaf, s]).data.toList = (Dg.joined [wNode, a, b]).data.toList := by rw [h]
    exact h2
  simp only [Dg.joinedL, List.flatMap_cons] at h1
  have := (Dg.piece_inj _ _ _ _ h1).1
  revert this
  decide

theorem dropLast_last (p : List ByteArray) (h : 0 < p.length) : p = p.dropLast ++ [last p] := by
  have hne : p ≠ [] := by intro e; subst e; simp at h
  unfold last
  rw [List.getLast?_eq_some_getLast hne]
  exact (List.dropLast_concat_getLast hne).symm

/-- A path that proves a leaf for the root of a tree of 2^h leaves: it has h elements and is the tree's own, and the leaf is the tree's; or two digests meet. -/
theorem climb (h : Nat) : ∀ (L : List ByteArray) (n i : Nat) (s : ByteArray) (p : List ByteArray), h ≤ 8 → n ≤ 8 → L.length = 2 ^ h → p.length = n → i < 2 ^ n → up (2 ^ n) i (leaf s) p = root L →
    Coll (texts L) (pathTexts (2 ^ n) i s p) ∨ (n = h ∧ s = L.getD i ByteArray.empty ∧ p = path L i) := by
  induction h with
  | zero =>
    intro L n i s p _ hn hL hp hi hu
    have hL1 : L.length = 1 := hL
    rw [root_one L hL1] at hu
    rw [texts_one L hL1]
    cases n with
    | zero =>
      have hi0 : i = 0 := by have : i < 1 := hi; omega
      subst hi0
      rw [up_one _ _ _ _ (by decide)] at hu
      rw [pathTexts_one _ _ _ _ (by decide)]
      by_cases hs : s = L.getD 0 ByteArray.empty
      · exact .inr ⟨rfl, hs, by rw [path_one _ _ (by omega), List.eq_nil_of_length_eq_zero hp]⟩
      · obtain ⟨c1, c2⟩ := leaf_coll _ _ hs hu
        exact .inl ⟨_, List.mem_singleton.2 rfl, _, List.mem_singleton.2 rfl, fun e => c1 e.symm, c2.symm⟩
    | succ n =>
      have h1 := half_two n (by omega)
      have h2 : 2 ^ (n + 1) = 2 ^ n + 2 ^ n := by rw [Nat.pow_succ]; omega
      have h3 : 0 < 2 ^ n := Nat.pos_of_ne_zero (by simp)
      by_cases hl : i < half (2 ^ (n + 1))
      · rw [up_left _ _ _ _ (by omega) hl] at hu
        rw [pathTexts_left _ _ _ _ (by omega) hl]
        exact .inl ⟨_, List.mem_singleton.2 rfl, _, List.mem_append_right _ (List.mem_singleton.2 rfl), joined_leaf_node _ _ _, hu.symm⟩
      · rw [up_right _ _ _ _ (by omega) hl] at hu
        rw [pathTexts_right _ _ _ _ (by omega) hl]
        exact .inl ⟨_, List.mem_singleton.2 rfl, _, List.mem_append_right _ (List.mem_singleton.2 rfl), joined_leaf_node _ _ _, hu.symm⟩
  | succ h ih =>
    intro L n i s p h8 hn hL hp hi hu
    have g1 := half_two h (by omega)
    have g2 : 2 ^ (h + 1) = 2 ^ h + 2 ^ h := by rw [Nat.pow_succ]; omega
    have g3 : 0 < 2 ^ h := Nat.pos_of_ne_zero (by simp)
    have hL1 : 1 < L.length := by omega
    rw [root_node L hL1] at hu
    rw [texts_node L hL1]
    cases n with
    | zero =>
      rw [up_one _ _ _ _ (by decide)] at hu
      rw [pathTexts_one _ _ _ _ (by decide)]
      exact .inl ⟨_, List.mem_append_right _ (List.mem_singleton.2 rfl), _, List.mem_singleton.2 rfl, fun e => joined_leaf_node _ _ _ e.symm, hu.symm⟩
    | succ n =>
      have h1 := half_two n (by omega)
      have h2 : 2 ^ (n + 1) = 2 ^ n + 2 ^ n := by rw [Nat.pow_succ]; omega
      have h3 : 0 < 2 ^ n := Nat.pos_of_ne_zero (by simp)
      have hLt : (L.take (half L.length)).length = 2 ^ h := by rw [Tr.take_len L hL1, hL, g1]
      have hLd : (L.drop (half L.length)).length = 2 ^ h := by rw [drop_len, hL, g1]; omega
      have hpl : p.dropLast.length = n := by rw [List.length_dropLast]; omega
      by_cases hl : i < half (2 ^ (n + 1))
      · rw [up_left _ _ _ _ (by omega) hl, h1] at hu
        rw [pathTexts_left _ _ _ _ (by omega) hl, h1]
        rcases node_coll _ _ _ _ hu with ⟨e1, e2⟩ | ⟨c1, c2⟩
        · rcases ih _ n i s p.dropLast (by omega) (by omega) hLt hpl (by omega) e1 with hc | ⟨a1, a2, a3⟩
          · exact .inl (hc.mono (fun x hx => by simp [hx]) (fun x hx => by simp [hx]))
          · subst a1
            have hi2 : i < half L.length := by rw [hL]; exact hl
            refine .inr ⟨rfl, by rw [a2, getD_take _ _ _ hi2], ?_⟩
            rw [path_left _ _ hL1 hi2, ← a3, ← e2]
            exact dropLast_last p (by omega)
        · exact .inl ⟨_, List.mem_append_right _ (List.mem_singleton.2 rfl), _, List.mem_append_right _ (List.mem_singleton.2 rfl), fun e => c1 e.symm, c2.symm⟩
      · rw [up_right _ _ _ _ (by omega) hl, h1, show 2 ^ (n + 1) - 2 ^ n = 2 ^ n by omega] at hu
        rw [pathTexts_right _ _ _ _ (by omega) hl, h1, show 2 ^ (n + 1) - 2 ^ n = 2 ^ n by omega]
        rcases node_coll _ _ _ _ hu with ⟨e1, e2⟩ | ⟨c1, c2⟩
        · rcases ih _ n (i - 2 ^ n) s p.dropLast (by omega) (by omega) hLd hpl (by omega) e2 with hc | ⟨a1, a2, a3⟩
          · exact .inl (hc.mono (fun x hx => by simp [hx]) (fun x hx => by simp [hx]))
          · subst a1
            have hi2 : ¬ i < half L.length := by rw [hL]; exact hl
            have hh : half L.length = 2 ^ n := by rw [hL, h1]
            refine .inr ⟨rfl, by rw [a2, ← hh, getD_drop _ _ _ (by omega)], ?_⟩
            rw [path_right _ _ hL1 hi2]
            rw [hh] at a3 e1 ⊢
            rw [← a3, ← e1]
            exact dropLast_last p (by omega)
        · exact .inl ⟨_, List.mem_append_right _ (List.mem_singleton.2 rfl), _, List.mem_append_right _ (List.mem_singleton.2 rfl), fun e => c1 e.symm, c2.symm⟩

/-! ### What a seal that is accepted shows -/

/-- The texts of a key hold, besides others, these. -/
structure Has (A : List ByteArray) (secret : ByteArray) (h n : Nat) : Prop where
  hst : ∀ i k, i < 2 ^ h → k < 18 → startText secret i k ∈ A
  hch : ∀ i k j, i < 2 ^ h → k < 18 → j ≤ n → chain j (start secret i k) ∈ A
  hky : ∀ i, i < 2 ^ h → Dg.joined (ends secret i) ∈ A
  htr : ∀ x ∈ texts (keys secret h), x ∈ A

/-- The texts of a check hold, besides others, these. -/
structure Chk (B : List ByteArray) (m : ByteArray) (i : Nat) (sig p : List ByteArray) : Prop where
  hch : ∀ k j, k < 18 → j ≤ 15 - dg m k → chain j (sig.getD k ByteArray.empty) ∈ B
  hky : Dg.joined (fins m sig) ∈ B
  htr : ∀ x ∈ pathTexts (2 ^ p.length) i (Dg.list (fins m sig)) p, x ∈ B

/-- The first part: an accepted seal has the tree's height and path, and its chains end as the key's. -/
theorem sound1 (secret : ByteArray) (h : Nat) (hh : h ≤ 8) (m : ByteArray) (i n : Nat) (sig p A B : List ByteArray) (hA : Has A secret h n) (hB : Chk B m i sig p) (hp : p.length ≤ 8) (hi : i < 2 ^ p.length)
    (hu : up (2 ^ p.length) i (leaf (Dg.list (fins m sig))) p = root (keys secret h)) :
    Coll A B ∨ (p.length = h ∧ p = path (keys secret h) i ∧ i < 2 ^ h ∧ fins m sig = ends secret i) := by
  rcases climb h _ _ i _ p hh hp (keys_length secret h) rfl hi hu with hc | ⟨e1, e2, e3⟩
  · exact .inl (hc.mono hA.htr hB.htr)
  · have hi2 : i < 2 ^ h := by rw [← e1]; exact hi
    by_cases he : Dg.joined (fins m sig) = Dg.joined (ends secret i)
    · exact .inr ⟨e1, e3, hi2, Dg.joined_inj _ _ (by rw [fins_length, ends_length]) he⟩
    · rw [keys_get _ _ _ hi2] at e2
      exact .inl ⟨_, hA.hky i hi2, _, hB.hky, fun e => he e.symm, e2.symm⟩

/-- A seal of one message that is accepted for another one. -/
theorem binds (secret : ByteArray) (h : Nat) (hh : h ≤ 8) (m o : ByteArray) (i : Nat) (p A B : List ByteArray) (hA : Has A secret h 30) (hB : Chk B o i (sigOf secret i m) p) (hp : p.length ≤ 8) (hi : i < 2 ^ p.length)
    (hmo : Dg.sum m ≠ Dg.sum o)
    (hu : up (2 ^ p.length) i (leaf (Dg.list (fins o (sigOf secret i m)))) p = root (keys secret h)) :
    Coll (A ++ B) (A ++ B) := by
  rcases sound1 secret h hh o i 30 _ p A B hA hB hp hi hu with hc | ⟨_, _, hi2, e⟩
  · exact hc.mono (fun x hx => List.mem_append_left _ hx) (fun x hx => List.mem_append_right _ hx)
  · obtain ⟨k, hk, hlt⟩ := dg_less m o hmo
    have hk1 : (fins o (sigOf secret i m)).getD k ByteArray.empty = (ends secret i).getD k ByteArray.empty := by rw [e]
    have hd := dg_le m k
    rw [fins_get _ _ _ hk, ends_get _ _ _ hk, sigOf_get _ _ _ _ hk, ← chain_add, show 15 - dg o k + dg m k = 15 + (dg m k - dg o k) by omega, start_sum] at hk1
    rcases chain_cycle _ (start_colon secret i k) _ (by omega) _ hk1 with ⟨h1, h2⟩ | ⟨j, hj, h1, h2⟩
    · exact ⟨_, List.mem_append_left _ (hA.hst i k hi2 hk), _, List.mem_append_left _ (hA.hch i k _ hi2 hk (by omega)), h1, h2⟩
    · exact ⟨_, List.mem_append_left _ (hA.hch i k _ hi2 hk (by omega)), _, List.mem_append_left _ (hA.hch i k j hi2 hk (by omega)), h1, h2⟩

end Go.Proofs.YtoimnllcniefoaaDoor.Sl
/- The plain law of the seals, second part: a path from its leaf up; the texts of a key and of a check. -/
namespace Go.Proofs.YtoimnllcniefoaaDoor.Sl
open Go Go.Proofs.YtoimnllcniefoaaDoor Go.Proofs.YtoimnllcniefoaaDoor.Tr

def step (a t : ByteArray) (i : Nat) : ByteArray := if i % 2 = 1 then node t a else node a t
def stepText (a t : ByteArray) (i : Nat) : ByteArray := if i % 2 = 1 then Dg.joined [wNode, t, a] else Dg.joined [wNode, a, t]
def climbTexts : ByteArray → Nat → List ByteArray → List ByteArray
  | _, _, [] => []
  | a, i, t :: p => stepText a t i :: climbTexts (step a t i) (i / 2) p

/-! ### The texts of a key, of a check -/

def chs (n : Nat) (s : ByteArray) : List ByteArray := (List.range (n + 1)).map fun j => chain j s
def kt (secret : ByteArray) (n i j : Nat) : List ByteArray := (List.range j).flatMap fun q => startText secret i q :: chs n (start secret i q)
def keyTexts (secret : ByteArray) (n i : Nat) : List ByteArray := kt secret n i 18 ++ [Dg.joined (ends secret i), Dg.joined [wLeaf, key secret i]]
def allKeys (secret : ByteArray) (n N : Nat) : List ByteArray := (List.range N).flatMap (keyTexts secret n)
def leaves (secret : ByteArray) (N : Nat) : List ByteArray := (List.range N).map fun i => leaf (key secret i)
def nodesOf : Nat → ByteArray → List ByteArray
  | 0, _ => []
  | 1, s => [Dg.joined [wNode, leaf (key s 0), leaf (key s 1)]]
  | _, s => [Dg.joined [wNode, leaf (key s 0), leaf (key s 1)], Dg.joined [wNode, leaf (key s 2), leaf (key s 3)], Dg.joined [wNode, node (leaf (key s 0)) (leaf (key s 1)), node (leaf (key s 2)) (leaf (key s 3))]]
def made (secret : ByteArray) (h n : Nat) : List ByteArray := allKeys secret n (2 ^ h) ++ nodesOf h secret

def ct (m : ByteArray) (sig : List ByteArray) (j : Nat) : List ByteArray := (List.range j).flatMap fun q => chs (15 - dg m q) (sig.getD q ByteArray.empty)
def checked (m : ByteArray) (i : Nat) (sig p : List ByteArray) : List ByteArray :=
  ct m sig 18 ++ [Dg.joined (fins m sig), Dg.joined [wLeaf, Dg.list (fins m sig)]] ++ climbTexts (leaf (Dg.list (fins m sig))) i p

end Go.Proofs.YtoimnllcniefoaaDoor.Sl
