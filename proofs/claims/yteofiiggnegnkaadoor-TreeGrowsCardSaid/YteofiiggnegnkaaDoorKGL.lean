import Derived.Test.YteofiiggnegnkaaDoorKPx0
import Derived.Test.YteofiiggnegnkaaDoorKPx1
import Derived.Test.YteofiiggnegnkaaDoorKPx2
import Derived.Test.YteofiiggnegnkaaDoorKPx3
import Derived.Test.YteofiiggnegnkaaDoorKPx4
import Derived.Test.YteofiiggnegnkaaDoorKD
import Derived.Test.YteofiiggnegnkaaDoorKTb
import Derived.Test.YteofiiggnegnkaaDoorKGPx14
import Derived.Test.YteofiiggnegnkaaDoorTie
import Derived.ProofKit
import Derived.OpenShut
import Derived.ShutString
import Derived.LaidMore
import Derived.LaidSub
import Derived.Lay
import Derived.SevenTiedAt
import Derived.Stop.Joined
import Derived.SliceStrings
import Derived.Lib.ItoaMem
set_option linter.unusedVariables false
set_option linter.unusedSimpArgs false
/- What every row of the seat needs: the listed variables, the table that strconv.Itoa reads, a slice of strings as an argument. -/
namespace Go.Proofs.YteofiiggnegnkaaDoor.P
open Go.ChangeShapes Go.WideShapes Go.ChangeAt Go.RowKit
open Go.Proofs.YteofiiggnegnkaaDoor Go.Proofs.YteofiiggnegnkaaDoorW.PrintWords Go.Proofs.YteofiiggnegnkaaDoorW.PrintLast Go.Proofs.YteofiiggnegnkaaDoorW.PrintMore
set_option linter.unusedVariables false

theorem own : ownKnob Tryd.prog.godebug = none := by kernel_rfl
theorem laidOut : laidOutB Tryd.prog = true := by kernel_rfl
def laid : List (String × DataW Unit) := [("math/bits.deBruijn32tab", Rows.laid_math_bits_deBruijn32tab), ("math/bits.deBruijn64tab", Rows.laid_math_bits_deBruijn64tab), ("internal/strconv.uint64pow10", Rows.laid_internal_strconv_uint64pow10), ("unicode/utf8.acceptRanges", Rows.laid_unicode_utf8_acceptRanges), ("unicode/utf8.first", Rows.laid_unicode_utf8_first)]

theorem tabs_of_laid {W : World} (h : laidMetH Tryd.prog laid W) : Tabs W := by
  have h2 := h.filter (fun x => x.1 == "internal/strconv.uint64pow10")
  have e : laid.filter (fun x => x.1 == "internal/strconv.uint64pow10") = [("internal/strconv.uint64pow10", Lib.tabData .u64 Lib.pow10Tab)] := by kernel_rfl
  rw [e, MakeChecks.laidMetH_plain _ _ _ (by kernel_rfl)] at h2
  exact Lib.tabIs_of_head tabs_global (t := 103) (e := 71) (n := 20) (by kernel_rfl) Tryd.underlying103 Tryd.underlying71 (by kernel_rfl) (by kernel_rfl) h2

/-- The witness: a start in which the listed variables read as the row says. -/
theorem laid_met (os : Os) (args : Array Value) : laidMetH Tryd.prog laid ((World.laidAll Tryd.prog os laid).forCall (fun _ _ => 0) ⟨#[], args, []⟩).memory := by
  rw [MakeChecks.laidMetH_plain _ _ _ (by kernel_rfl)]
  exact laidMet_laidAll _ (by kernel_rfl) (by kernel_rfl)
theorem laid_shaped (os : Os) (args : Array Value) : ((World.laidAll Tryd.prog os laid).forCall (fun _ _ => 0) ⟨#[], args, []⟩).Shaped Tryd.prog :=
  World.shaped_of_ZipB (by kernel_rfl) (by kernel_rfl)

/-- A slice of strings that came in reads as a list. -/
theorem strings_in {H : Type} {enc : TypeId × Value → H} {W : World} {spare : Nat → Bool} {held : Bool} {fuel : Nat} {a : Option Addr} {n c : Nat} {x : DataW H × List MemPlace} (hf : DataW.trod enc Tryd.prog W 0 spare held fuel 22 [.slice a n c] = some x) :
    ∃ l : List ByteArray, l.length = n ∧ n ≤ c ∧ Kd.C Kd.string W a n l := by
  rcases open_strings Tryd.underlying22 Tryd.underlying9 (by kernel_rfl) hf with ⟨hcs, hx⟩ | ⟨x, len', cap', ss, hcs, _, hl, hm, hz, hx, hcell, _⟩
  · simp only [List.cons.injEq, Value.slice.injEq, and_true] at hcs
    obtain ⟨rfl, rfl, rfl⟩ := hcs
    exact ⟨[], rfl, Nat.le_refl _, Kd.C_of_reads (d := ByteArray.empty) (h1 := fun _ => rfl) ⟨rfl, by decide, fun hn => by simp at hn⟩⟩
  · simp only [List.cons.injEq, Value.slice.injEq, and_true] at hcs
    obtain ⟨rfl, rfl, rfl⟩ := hcs
    have hz' : n ≤ ss.length := by rw [hz]; split <;> omega
    have hlen : (ss.take n).length = n := by rw [List.length_take]; omega
    have hm' : c ≤ 9223372036854775807 := hm
    refine ⟨ss.take n, hlen, hl, Kd.C_of_reads (d := ByteArray.empty) (h1 := fun _ => rfl) ⟨hlen, by omega, fun hn => ⟨x, rfl, fun j hj => ?_⟩⟩⟩
    rw [hcell j (by omega)]
    simp only [List.getD_eq_getElem?_getD, List.getElem?_take_of_lt hj]
end Go.Proofs.YteofiiggnegnkaaDoor.P
/- The plain law of the Merkle trees: roots, paths and links of lists, what a path and a link prove, and where two digests meet; no program and no memory. -/
namespace Go.Proofs.YteofiiggnegnkaaDoor.Dg
open Go

theorem hexd_mem : ∀ d : Nat, d < 16 → hexset.contains (hexd d) = true := by decide

theorem isD_sum (s : ByteArray) : isD (sum s) = true := by
  have h1 : (sum s).size = 16 := sum_size s
  have h2 : (sum s).data.toList = hex (state s.data.toList) := rfl
  unfold isD
  rw [h1, h2, Bool.and_eq_true]
  refine ⟨rfl, List.all_eq_true.2 fun x hx => ?_⟩
  unfold hex at hx
  obtain ⟨i, _, rfl⟩ := List.mem_map.1 hx
  exact hexd_mem _ (Nat.mod_lt _ (by decide))

theorem isD_list (l : List ByteArray) : isD (list l) = true := isD_sum _

/-- The number that a list of decimal digits reads as. -/
def val (l : List UInt8) : Nat := l.foldl (fun a d => a * 10 + (d.toNat - 48)) 0

theorem digit_toNat (d : Nat) (h : d < 10) : (UInt8.ofNat (48 + d)).toNat = 48 + d := by
  rw [UInt8.toNat_ofNat']
  omega

theorem val_dec (u : Nat) : val (Lib.decDigits u) = u := by
  induction u using Nat.strongRecOn with
  | _ u ih =>
    by_cases h : u < 10
    · rw [Lib.decDigits_one h]
      have := digit_toNat u h
      simp only [val, List.foldl_cons, List.foldl_nil]
      omega
    · rw [Lib.decDigits, dif_neg h]
      have := digit_toNat (u % 10) (Nat.mod_lt _ (by decide))
      have h2 := ih (u / 10) (by omega)
      simp only [val] at h2 ⊢
      rw [List.foldl_append, h2]
      simp only [List.foldl_cons, List.foldl_nil]
      omega

theorem dec_ne (u : Nat) : ∀ d ∈ Lib.decDigits u, d ≠ 58 := by
  induction u using Nat.strongRecOn with
  | _ u ih =>
    intro d hd
    have hk : ∀ i : Nat, i < 10 → UInt8.ofNat (48 + i) ≠ 58 := by decide
    by_cases h : u < 10
    · rw [Lib.decDigits_one h] at hd
      rw [List.mem_singleton.1 hd]
      exact hk u h
    · rw [Lib.decDigits, dif_neg h] at hd
      rcases List.mem_append.1 hd with h1 | h1
      · exact ih (u / 10) (by omega) d h1
      · rw [List.mem_singleton.1 h1]
        exact hk _ (Nat.mod_lt _ (by decide))

theorem split_colon (a b : List UInt8) (x y : List UInt8) (ha : ∀ d ∈ a, d ≠ 58) (hb : ∀ d ∈ b, d ≠ 58) (h : a ++ 58 :: x = b ++ 58 :: y) : a = b ∧ x = y := by
  induction a generalizing b with
  | nil =>
    cases b with
    | nil => simp at h; exact ⟨rfl, h⟩
    | cons c b =>
      simp at h
      exact absurd h.1.symm (hb c (by simp))
  | cons c a ih =>
    cases b with
    | nil =>
      simp at h
      exact absurd h.1 (ha c (by simp))
    | cons d b =>
      simp at h
      obtain ⟨h1, h2⟩ := h
      obtain ⟨h3, h4⟩ := ih b (fun d hd => ha d (by simp [hd])) (fun d hd => hb d (by simp [hd])) h2
      exact ⟨by rw [h1, h3], h4⟩

theorem ba_ext {a b : ByteArray} (h : a.data.toList = b.data.toList) : a = b := ByteArray.ext (Array.toList_inj.1 h)

/-- A text with its length ahead can be read off. -/
theorem piece_inj (a b : ByteArray) (x y : List UInt8) (h : piece a ++ x = piece b ++ y) : a = b ∧ x = y := by
  simp only [piece, Lib.itoa_nonneg, List.append_assoc, List.cons_append] at h
  obtain ⟨h1, h2⟩ := split_colon _ _ _ _ (dec_ne _) (dec_ne _) h
  have hs : a.size = b.size := by
    have := congrArg val h1
    rwa [val_dec, val_dec] at this
  have hl : a.data.toList.length = b.data.toList.length := hs
  obtain ⟨h3, h4⟩ := List.append_inj h2 hl
  exact ⟨ba_ext h3, h4⟩

theorem joinedL_inj (l m : List ByteArray) (hlen : l.length = m.length) (h : joinedL l = joinedL m) : l = m := by
  induction l generalizing m with
  | nil =>
    cases m with
    | nil => rfl
    | cons b m => simp at hlen
  | cons a l ih =>
    cases m with
    | nil => simp at hlen
    | cons b m =>
      simp only [joinedL, List.flatMap_cons] at h
      obtain ⟨h1, h2⟩ := piece_inj a b _ _ h
      rw [h1, ih m (by simpa using hlen) h2]

theorem joined_inj (l m : List ByteArray) (hlen : l.length = m.length) (h : joined l = joined m) : l = m := by
  apply joinedL_inj l m hlen
  have h2 : (joined l).data.toList = (joined m).data.toList := by rw [h]
  exact h2
end Go.Proofs.YteofiiggnegnkaaDoor.Dg

namespace Go.Proofs.YteofiiggnegnkaaDoor.Tr
open Go Go.Proofs.YteofiiggnegnkaaDoor

/-! ### Roots, paths, links -/

theorem take_lt (l : List ByteArray) (h : ¬ l.length ≤ 1) : (l.take (half l.length)).length < l.length := by
  have := half_lt l.length (by omega)
  rw [List.length_take]; omega
theorem drop_lt (l : List ByteArray) (h : ¬ l.length ≤ 1) : (l.drop (half l.length)).length < l.length := by
  have := half_pos l.length
  rw [List.length_drop]; omega

def root (l : List ByteArray) : ByteArray :=
  if l.length = 0 then empty
  else if h : l.length ≤ 1 then leaf (l.getD 0 ByteArray.empty)
  else
    have := take_lt l h
    have := drop_lt l h
    node (root (l.take (half l.length))) (root (l.drop (half l.length)))
termination_by l.length
decreasing_by all_goals assumption

theorem root_zero (l : List ByteArray) (h : l.length = 0) : root l = empty := by rw [root, if_pos h]
theorem root_one (l : List ByteArray) (h : l.length = 1) : root l = leaf (l.getD 0 ByteArray.empty) := by rw [root, if_neg (by omega), dif_pos (by omega)]
theorem root_node (l : List ByteArray) (h : 1 < l.length) : root l = node (root (l.take (half l.length))) (root (l.drop (half l.length))) := by
  rw [root, if_neg (by omega), dif_neg (by omega)]

theorem isD_root (l : List ByteArray) : Dg.isD (root l) = true := by
  rw [root]
  split
  · exact Dg.isD_list _
  · split
    · exact Dg.isD_list _
    · exact Dg.isD_list _

def path (l : List ByteArray) (i : Nat) : List ByteArray :=
  if h : l.length ≤ 1 then []
  else
    have := take_lt l h
    have := drop_lt l h
    if i < half l.length then path (l.take (half l.length)) i ++ [root (l.drop (half l.length))]
    else path (l.drop (half l.length)) (i - half l.length) ++ [root (l.take (half l.length))]
termination_by l.length
decreasing_by all_goals assumption

theorem path_one (l : List ByteArray) (i : Nat) (h : l.length ≤ 1) : path l i = [] := by rw [path, dif_pos h]
theorem path_left (l : List ByteArray) (i : Nat) (h : 1 < l.length) (hi : i < half l.length) : path l i = path (l.take (half l.length)) i ++ [root (l.drop (half l.length))] := by
  rw [path, dif_neg (by omega), if_pos hi]
theorem path_right (l : List ByteArray) (i : Nat) (h : 1 < l.length) (hi : ¬ i < half l.length) : path l i = path (l.drop (half l.length)) (i - half l.length) ++ [root (l.take (half l.length))] := by
  rw [path, dif_neg (by omega), if_neg hi]

def link (l : List ByteArray) (m : Nat) (whole : Bool) : List ByteArray :=
  if m = l.length then if whole then [] else [root l]
  else if h : l.length ≤ 1 then []
  else
    have := take_lt l h
    have := drop_lt l h
    if m ≤ half l.length then link (l.take (half l.length)) m whole ++ [root (l.drop (half l.length))]
    else link (l.drop (half l.length)) (m - half l.length) false ++ [root (l.take (half l.length))]
termination_by l.length
decreasing_by all_goals assumption

theorem link_all (l : List ByteArray) (m : Nat) (whole : Bool) (h : m = l.length) : link l m whole = if whole then [] else [root l] := by rw [link, if_pos h]
theorem link_left (l : List ByteArray) (m : Nat) (whole : Bool) (h : 1 < l.length) (hm : m ≠ l.length) (hi : m ≤ half l.length) : link l m whole = link (l.take (half l.length)) m whole ++ [root (l.drop (half l.length))] := by
  rw [link, if_neg hm, dif_neg (by omega), if_pos hi]
theorem link_right (l : List ByteArray) (m : Nat) (whole : Bool) (h : 1 < l.length) (hm : m ≠ l.length) (hi : ¬ m ≤ half l.length) : link l m whole = link (l.drop (half l.length)) (m - half l.length) false ++ [root (l.take (half l.length))] := by
  rw [link, if_neg hm, dif_neg (by omega), if_neg hi]

/-! ### Lengths and the reference's way up -/

theorem sub_lt_of (n : Nat) (h : ¬ n ≤ 1) : n - half n < n := by have := half_pos n; omega

def len (n i : Nat) : Nat :=
  if h : n ≤ 1 then 0
  else
    have := half_lt n (by omega)
    have := sub_lt_of n h
    if i < half n then 1 + len (half n) i else 1 + len (n - half n) (i - half n)
termination_by n

theorem len_one (n i : Nat) (h : n ≤ 1) : len n i = 0 := by rw [len, dif_pos h]
theorem len_left (n i : Nat) (h : 1 < n) (hi : i < half n) : len n i = 1 + len (half n) i := by rw [len, dif_neg (by omega), if_pos hi]
theorem len_right (n i : Nat) (h : 1 < n) (hi : ¬ i < half n) : len n i = 1 + len (n - half n) (i - half n) := by rw [len, dif_neg (by omega), if_neg hi]

def up (n i : Nat) (d : ByteArray) (p : List ByteArray) : ByteArray :=
  if h : n ≤ 1 then d
  else
    have := half_lt n (by omega)
    have := sub_lt_of n h
    if i < half n then node (up (half n) i d p.dropLast) (last p) else node (last p) (up (n - half n) (i - half n) d p.dropLast)
termination_by n

theorem up_one (n i : Nat) (d : ByteArray) (p : List ByteArray) (h : n ≤ 1) : up n i d p = d := by rw [up, dif_pos h]
theorem up_left (n i : Nat) (d : ByteArray) (p : List ByteArray) (h : 1 < n) (hi : i < half n) : up n i d p = node (up (half n) i d p.dropLast) (last p) := by rw [up, dif_neg (by omega), if_pos hi]
theorem up_right (n i : Nat) (d : ByteArray) (p : List ByteArray) (h : 1 < n) (hi : ¬ i < half n) : up n i d p = node (last p) (up (n - half n) (i - half n) d p.dropLast) := by rw [up, dif_neg (by omega), if_neg hi]

theorem last_snoc (l : List ByteArray) (x : ByteArray) : last (l ++ [x]) = x := by simp [last]

theorem proper_dropLast (l : List ByteArray) (h : proper l = true) : proper l.dropLast = true := by
  unfold proper at h ⊢
  rw [List.all_eq_true] at h ⊢
  exact fun x hx => h x ((List.dropLast_sublist l).subset hx)

theorem proper_last (l : List ByteArray) (h : proper l = true) (h0 : 0 < l.length) : ((last l).size == 0) = false := by
  have hl : l ≠ [] := by intro e; subst e; simp at h0
  have h1 : last l = l.getLast hl := by simp [last, List.getLast?_eq_some_getLast hl]
  unfold proper at h
  have h2 := List.all_eq_true.1 h _ (List.getLast_mem hl)
  rw [h1]
  unfold Dg.isD at h2
  rw [Bool.and_eq_true, beq_iff_eq] at h2
  rw [h2.1]; rfl

theorem last_empty (l : List ByteArray) (h : l.length = 0) : ((last l).size == 0) = true := by
  rw [List.eq_nil_of_length_eq_zero h]; rfl

theorem ckUp_true (f : Nat) : ∀ (n i : Nat) (x : ByteArray) (l : List ByteArray), (ckUp f n i x l true).2.2 = true := by
  induction f with
  | zero => intros; rfl
  | succ f ih =>
    intro n i x l
    simp only [ckUp, Bool.true_or]
    split
    · rfl
    · split
      · exact ih _ _ _ _
      · exact ih _ _ _ _

/-- The way up with a path that is long enough. -/
theorem ckUp_long (x : ByteArray) (f : Nat) : ∀ (n i : Nat) (l : List ByteArray) (s : Bool), n ≤ f → 1 ≤ n → i < n → proper l = true → len n i ≤ l.length →
    (ckUp f n i x l s).1 = up n i (leaf x) l ∧ (ckUp f n i x l s).2.1.length = l.length - len n i ∧ (ckUp f n i x l s).2.2 = s := by
  induction f with
  | zero => intro n i l s h1 h2; omega
  | succ f ih =>
    intro n i l s hf hn hi hp hl
    by_cases h1 : n ≤ 1
    · simp only [ckUp, if_pos h1]
      rw [up_one _ _ _ _ h1, len_one _ _ h1]
      simp
    · have h2 := half_lt n (by omega)
      have h3 := half_pos n
      by_cases hh : i < half n
      · rw [len_left n i (by omega) hh] at hl ⊢
        rw [up_left n i _ _ (by omega) hh]
        simp only [ckUp, if_neg h1, if_pos hh]
        rw [proper_last l hp (by omega), Bool.or_false]
        obtain ⟨e1, e2, e3⟩ := ih (half n) i l.dropLast s (by omega) h3 hh (proper_dropLast l hp) (by rw [List.length_dropLast]; omega)
        rw [e1, e2, e3, List.length_dropLast]
        exact ⟨rfl, by omega, rfl⟩
      · rw [len_right n i (by omega) hh] at hl ⊢
        rw [up_right n i _ _ (by omega) hh]
        simp only [ckUp, if_neg h1, if_neg hh]
        rw [proper_last l hp (by omega), Bool.or_false]
        obtain ⟨e1, e2, e3⟩ := ih (n - half n) (i - half n) l.dropLast s (by omega) (by omega) (by omega) (proper_dropLast l hp) (by rw [List.length_dropLast]; omega)
        rw [e1, e2, e3, List.length_dropLast]
        exact ⟨rfl, by omega, rfl⟩

/-- The way up with a path that is too short. -/
theorem ckUp_short (x : ByteArray) (f : Nat) : ∀ (n i : Nat) (l : List ByteArray) (s : Bool), n ≤ f → 1 ≤ n → i < n → l.length < len n i → (ckUp f n i x l s).2.2 = true := by
  induction f with
  | zero => intro n i l s h1 h2; omega
  | succ f ih =>
    intro n i l s hf hn hi hl
    by_cases h1 : n ≤ 1
    · rw [len_one _ _ h1] at hl; omega
    · have h2 := half_lt n (by omega)
      have h3 := half_pos n
      by_cases h0 : l.length = 0
      · simp only [ckUp, if_neg h1]
        rw [last_empty l h0, Bool.or_true]
        split
        · exact ckUp_true _ _ _ _ _
        · exact ckUp_true _ _ _ _ _
      · by_cases hh : i < half n
        · rw [len_left n i (by omega) hh] at hl
          simp only [ckUp, if_neg h1, if_pos hh]
          exact ih (half n) i l.dropLast _ (by omega) h3 hh (by rw [List.length_dropLast]; omega)
        · rw [len_right n i (by omega) hh] at hl
          simp only [ckUp, if_neg h1, if_neg hh]
          exact ih (n - half n) (i - half n) l.dropLast _ (by omega) (by omega) (by omega) (by rw [List.length_dropLast]; omega)

/-- Check as the reference reads it. -/
theorem check_eq (r : ByteArray) (n i : Nat) (x : ByteArray) (p : List ByteArray) (h1 : n ≤ 1000000) (h2 : i < n) (hp : proper p = true) :
    check r n i x p = (decide (p.length = len n i) && decide (up n i (leaf x) p = r)) := by
  unfold check
  rw [if_neg (by rw [hp]; simp; omega)]
  simp only [Int.toNat_natCast]
  rcases Nat.lt_or_ge p.length (len n i) with h | h
  · rw [ckUp_short x n n i p false (Nat.le_refl _) (by omega) h2 h, decide_eq_false (show ¬ p.length = len n i by omega)]
    simp
  · obtain ⟨e1, e2, e3⟩ := ckUp_long x n n i p false (Nat.le_refl _) (by omega) h2 hp h
    simp only [e1, e2, e3]
    by_cases hl : p.length = len n i
    · rw [decide_eq_true hl, hl]; simp
    · rw [decide_eq_false hl]
      have : ((p.length - len n i == 0) : Bool) = false := by rw [beq_eq_false_iff_ne]; omega
      rw [this]; simp

/-! ### Links -/

def long (n m : Nat) (whole : Bool) : Nat :=
  if m = n then if whole then 0 else 1
  else if h : n ≤ 1 then 0
  else
    have := half_lt n (by omega)
    have := sub_lt_of n h
    if m ≤ half n then 1 + long (half n) m whole else 1 + long (n - half n) (m - half n) false
termination_by n

theorem long_all (n m : Nat) (whole : Bool) (h : m = n) : long n m whole = if whole then 0 else 1 := by rw [long, if_pos h]
theorem long_left (n m : Nat) (whole : Bool) (h : 1 < n) (hm : m ≠ n) (hi : m ≤ half n) : long n m whole = 1 + long (half n) m whole := by rw [long, if_neg hm, dif_neg (by omega), if_pos hi]
theorem long_right (n m : Nat) (whole : Bool) (h : 1 < n) (hm : m ≠ n) (hi : ¬ m ≤ half n) : long n m whole = 1 + long (n - half n) (m - half n) false := by rw [long, if_neg hm, dif_neg (by omega), if_neg hi]

def both (n m : Nat) (whole : Bool) (old : ByteArray) (p : List ByteArray) : ByteArray × ByteArray :=
  if m = n then if whole then (old, old) else (last p, last p)
  else if h : n ≤ 1 then (old, old)
  else
    have := half_lt n (by omega)
    have := sub_lt_of n h
    if m ≤ half n then ((both (half n) m whole old p.dropLast).1, node (both (half n) m whole old p.dropLast).2 (last p))
    else (node (last p) (both (n - half n) (m - half n) false old p.dropLast).1, node (last p) (both (n - half n) (m - half n) false old p.dropLast).2)
termination_by n

theorem both_all (n m : Nat) (whole : Bool) (old : ByteArray) (p : List ByteArray) (h : m = n) : both n m whole old p = if whole then (old, old) else (last p, last p) := by rw [both, if_pos h]
theorem both_left (n m : Nat) (whole : Bool) (old : ByteArray) (p : List ByteArray) (h : 1 < n) (hm : m ≠ n) (hi : m ≤ half n) : both n m whole old p = ((both (half n) m whole old p.dropLast).1, node (both (half n) m whole old p.dropLast).2 (last p)) := by
  rw [both, if_neg hm, dif_neg (by omega), if_pos hi]
theorem both_right (n m : Nat) (whole : Bool) (old : ByteArray) (p : List ByteArray) (h : 1 < n) (hm : m ≠ n) (hi : ¬ m ≤ half n) : both n m whole old p = (node (last p) (both (n - half n) (m - half n) false old p.dropLast).1, node (last p) (both (n - half n) (m - half n) false old p.dropLast).2) := by
  rw [both, if_neg hm, dif_neg (by omega), if_neg hi]

theorem exBoth_true (f : Nat) : ∀ (n m : Nat) (whole : Bool) (old : ByteArray) (l : List ByteArray), (exBoth f n m whole old l true).2.2 = true := by
  induction f with
  | zero => intros; rfl
  | succ f ih =>
    intro n m whole old l
    simp only [exBoth, Bool.true_or]
    split
    · split <;> rfl
    · split
      · exact ih _ _ _ _ _
      · exact ih _ _ _ _ _

theorem exBoth_long (old : ByteArray) (f : Nat) : ∀ (n m : Nat) (whole : Bool) (l : List ByteArray) (s : Bool), n ≤ f → 1 ≤ m → m ≤ n → proper l = true → long n m whole ≤ l.length →
    (exBoth f n m whole old l s).1 = both n m whole old l ∧ (exBoth f n m whole old l s).2.1.length = l.length - long n m whole ∧ (exBoth f n m whole old l s).2.2 = s := by
  induction f with
  | zero => intro n m whole l s h1 h2; omega
  | succ f ih =>
    intro n m whole l s hf hm hn hp hl
    by_cases h1 : m = n
    · rw [long_all n m whole h1] at hl ⊢
      rw [both_all n m whole old l h1]
      simp only [exBoth, if_pos h1]
      cases whole with
      | true => exact ⟨rfl, rfl, rfl⟩
      | false =>
        simp only [Bool.false_eq_true, if_false] at hl ⊢
        rw [proper_last l hp (by omega)]
        simp
    · have h2 := half_lt n (by omega)
      have h3 := half_pos n
      by_cases hh : m ≤ half n
      · rw [long_left n m whole (by omega) h1 hh] at hl ⊢
        rw [both_left n m whole old l (by omega) h1 hh]
        simp only [exBoth, if_neg h1, if_pos hh]
        rw [proper_last l hp (by omega), Bool.or_false]
        obtain ⟨e1, e2, e3⟩ := ih (half n) m whole l.dropLast s (by omega) hm hh (proper_dropLast l hp) (by rw [List.length_dropLast]; omega)
        rw [e1, e2, e3, List.length_dropLast]
        exact ⟨rfl, by omega, rfl⟩
      · rw [long_right n m whole (by omega) h1 hh] at hl ⊢
        rw [both_right n m whole old l (by omega) h1 hh]
        simp only [exBoth, if_neg h1, if_neg hh]
        rw [proper_last l hp (by omega), Bool.or_false]
        obtain ⟨e1, e2, e3⟩ := ih (n - half n) (m - half n) false l.dropLast s (by omega) (by omega) (by omega) (proper_dropLast l hp) (by rw [List.length_dropLast]; omega)
        rw [e1, e2, e3, List.length_dropLast]
        exact ⟨rfl, by omega, rfl⟩

theorem exBoth_short (old : ByteArray) (f : Nat) : ∀ (n m : Nat) (whole : Bool) (l : List ByteArray) (s : Bool), n ≤ f → 1 ≤ m → m ≤ n → l.length < long n m whole → (exBoth f n m whole old l s).2.2 = true := by
  induction f with
  | zero => intro n m whole l s h1 h2; omega
  | succ f ih =>
    intro n m whole l s hf hm hn hl
    by_cases h1 : m = n
    · rw [long_all n m whole h1] at hl
      simp only [exBoth, if_pos h1]
      cases whole with
      | true => simp at hl
      | false =>
        simp only [Bool.false_eq_true, if_false] at hl ⊢
        rw [last_empty l (by omega)]
        simp
    · have h2 := half_lt n (by omega)
      have h3 := half_pos n
      by_cases h0 : l.length = 0
      · simp only [exBoth, if_neg h1]
        rw [last_empty l h0, Bool.or_true]
        split
        · exact exBoth_true _ _ _ _ _ _
        · exact exBoth_true _ _ _ _ _ _
      · by_cases hh : m ≤ half n
        · rw [long_left n m whole (by omega) h1 hh] at hl
          simp only [exBoth, if_neg h1, if_pos hh]
          exact ih (half n) m whole l.dropLast _ (by omega) hm hh (by rw [List.length_dropLast]; omega)
        · rw [long_right n m whole (by omega) h1 hh] at hl
          simp only [exBoth, if_neg h1, if_neg hh]
          exact ih (n - half n) (m - half n) false l.dropLast _ (by omega) (by omega) (by omega) (by rw [List.length_dropLast]; omega)

/-- Extends as the reference reads it, for m from 1 on. -/
theorem extends_eq (old : ByteArray) (m : Nat) (r : ByteArray) (n : Nat) (p : List ByteArray) (h1 : 1 ≤ m) (h2 : m ≤ n) (h3 : n ≤ 1000000) (hp : proper p = true) (hr : proper [old, r] = true) :
    extends_ old m r n p = (decide (p.length = long n m true) && (decide ((both n m true old p).1 = old) && decide ((both n m true old p).2 = r))) := by
  unfold extends_
  rw [if_neg (by rw [hp, hr]; simp; omega), if_neg (by omega)]
  simp only [Int.toNat_natCast]
  rcases Nat.lt_or_ge p.length (long n m true) with h | h
  · rw [exBoth_short old n n m true p false (Nat.le_refl _) h1 h2 h, decide_eq_false (show ¬ p.length = long n m true by omega)]
    simp
  · obtain ⟨e1, e2, e3⟩ := exBoth_long old n n m true p false (Nat.le_refl _) h1 h2 hp h
    simp only [e1, e2, e3]
    by_cases hl : p.length = long n m true
    · rw [decide_eq_true hl, hl]; simp
    · rw [decide_eq_false hl]
      have : ((p.length - long n m true == 0) : Bool) = false := by rw [beq_eq_false_iff_ne]; omega
      rw [this]; simp

theorem extends_zero_eq (old : ByteArray) (r : ByteArray) (n : Nat) (p : List ByteArray) (h3 : n ≤ 1000000) (hp : proper p = true) (hr : proper [old, r] = true) :
    extends_ old 0 r n p = (p.length == 0 && (decide (old = empty) && (decide ((n : Int) > 0) || decide (r = old)))) := by
  unfold extends_
  rw [if_neg (by rw [hp, hr]; simp; omega), if_pos rfl]

end Go.Proofs.YteofiiggnegnkaaDoor.Tr
/- The reference's digest, as the print has it, computes the plain digest. -/
namespace Go.Proofs.YteofiiggnegnkaaDoor.P
open Go.RowKit Go.Proofs.YteofiiggnegnkaaDoor Go.Proofs.YteofiiggnegnkaaDoorW.PrintWords Go.Proofs.YteofiiggnegnkaaDoorW.PrintLast Go.Proofs.YteofiiggnegnkaaDoorW.PrintMore
set_option linter.unusedVariables false
set_option linter.unusedSimpArgs false

theorem tmod_nat (a b : Nat) : Int.tmod (a : Int) (b : Int) = ((a % b : Nat) : Int) := by
  rw [Int.tmod_eq_emod_of_nonneg (by omega)]; omega
theorem tdiv_nat (a b : Nat) : Int.tdiv (a : Int) (b : Int) = ((a / b : Nat) : Int) := by
  rw [Int.tdiv_eq_ediv_of_nonneg (by omega)]; omega
theorem rd_nat (l : List ByteArray) (i : Nat) : rdOf ByteArray.empty l (i : Int) = l.getD i ByteArray.empty := rfl
theorem rd_lt (l : List ByteArray) (i : Nat) (h : i < l.length) : rdOf ByteArray.empty l (i : Int) = l[i] := by
  rw [rd_nat, List.getD_eq_getElem?_getD, List.getElem?_eq_getElem h]; rfl

end Go.Proofs.YteofiiggnegnkaaDoor.P
/- The plain law of the Merkle trees, second part: what a path proves, what equal roots show, what a link proves. -/
namespace Go.Proofs.YteofiiggnegnkaaDoor.Tr
open Go Go.Proofs.YteofiiggnegnkaaDoor

theorem list_ind {P : List ByteArray → Prop} (h : ∀ l : List ByteArray, (1 < l.length → P (l.take (half l.length)) ∧ P (l.drop (half l.length))) → P l) (l : List ByteArray) : P l := by
  generalize hn : l.length = n
  induction n using Nat.strongRecOn generalizing l with
  | _ n ih =>
    refine h l fun h1 => ⟨?_, ?_⟩
    · exact ih _ (by have := take_lt l (by omega); omega) _ rfl
    · exact ih _ (by have := drop_lt l (by omega); omega) _ rfl

theorem take_len (l : List ByteArray) (h : 1 < l.length) : (l.take (half l.length)).length = half l.length := by
  have := half_lt l.length h
  rw [List.length_take]; omega
theorem drop_len (l : List ByteArray) : (l.drop (half l.length)).length = l.length - half l.length := List.length_drop

theorem getD_take (l : List ByteArray) (k i : Nat) (h : i < k) : (l.take k).getD i ByteArray.empty = l.getD i ByteArray.empty := by
  rw [List.getD_eq_getElem?_getD, List.getD_eq_getElem?_getD, List.getElem?_take_of_lt h]
theorem getD_drop (l : List ByteArray) (k i : Nat) (h : k ≤ i) : (l.drop k).getD (i - k) ByteArray.empty = l.getD i ByteArray.empty := by
  rw [List.getD_eq_getElem?_getD, List.getD_eq_getElem?_getD, List.getElem?_drop]
  congr 2; omega

/-! ### A path proves its element -/

theorem path_length (l : List ByteArray) : ∀ i, (path l i).length = len l.length i := by
  induction l using list_ind with
  | h l ih =>
    intro i
    by_cases h1 : l.length ≤ 1
    · rw [path_one l i h1, len_one _ _ h1]; rfl
    · obtain ⟨ia, ib⟩ := ih (by omega)
      by_cases hi : i < half l.length
      · rw [path_left l i (by omega) hi, len_left _ _ (by omega) hi, List.length_append, ia, take_len l (by omega)]
        simp; omega
      · rw [path_right l i (by omega) hi, len_right _ _ (by omega) hi, List.length_append, ib, drop_len]
        simp; omega

theorem proper_snoc (p : List ByteArray) (x : ByteArray) (hp : proper p = true) (hx : Dg.isD x = true) : proper (p ++ [x]) = true := by
  unfold proper at hp ⊢
  rw [List.all_append, hp]
  simp [hx]

theorem up_path (l : List ByteArray) : ∀ i, i < l.length → up l.length i (leaf (l.getD i ByteArray.empty)) (path l i) = root l := by
  induction l using list_ind with
  | h l ih =>
    intro i hl
    by_cases h1 : l.length ≤ 1
    · have : i = 0 := by omega
      subst this
      rw [up_one _ _ _ _ h1, root_one l (by omega)]
    · obtain ⟨ia, ib⟩ := ih (by omega)
      by_cases hi : i < half l.length
      · have e := ia i (by rw [take_len l (by omega)]; exact hi)
        rw [take_len l (by omega), getD_take _ _ _ hi] at e
        rw [path_left l i (by omega) hi, up_left _ _ _ _ (by omega) hi, List.dropLast_concat, last_snoc, root_node l (by omega), e]
      · have e := ib (i - half l.length) (by rw [drop_len]; omega)
        rw [drop_len, getD_drop _ _ _ (by omega)] at e
        rw [path_right l i (by omega) hi, up_right _ _ _ _ (by omega) hi, List.dropLast_concat, last_snoc, root_node l (by omega), e]

/-- How many binary digits a number below 32 has. -/
def digsF : Nat → Nat → Nat
  | 0, _ => 0
  | f + 1, n => if n = 0 then 0 else 1 + digsF f (n / 2)
def digs (n : Nat) : Nat := digsF 5 n

theorem digs_le : ∀ n, n ≤ 20 → digs n ≤ 5 ∧ n ≤ 2 ^ digs n := by decide +kernel
theorem half_pow : ∀ n, n ≤ 20 → 1 < n → ∀ d, d ≤ 5 → n ≤ 2 ^ (d + 1) → half n ≤ 2 ^ d ∧ n - half n ≤ 2 ^ d := by decide +kernel
theorem half_same : ∀ n, n ≤ 20 → ∀ m, m ≤ n → half n < m → 1 < m → half m = half n := by decide +kernel

theorem long_le (d : Nat) : ∀ n m whole, d ≤ 5 → n ≤ 20 → n ≤ 2 ^ d → long n m whole ≤ d + 1 := by
  induction d with
  | zero =>
    intro n m whole _ _ h
    rw [long]
    split
    · split <;> omega
    · omega
  | succ d ih =>
    intro n m whole hd hn h
    by_cases hm : m = n
    · rw [long_all n m whole hm]; split <;> omega
    · by_cases h1 : n ≤ 1
      · rw [long, if_neg hm, dif_pos h1]; omega
      · have h2 := half_lt n (by omega)
        obtain ⟨ha, hb⟩ := half_pow n hn (by omega) d (by omega) h
        by_cases hi : m ≤ half n
        · rw [long_left n m whole (by omega) hm hi]
          have := ih (half n) m whole (by omega) (by omega) ha
          omega
        · rw [long_right n m whole (by omega) hm hi]
          have := ih (n - half n) (m - half n) false (by omega) (by omega) hb
          omega

theorem long_digs (n m : Nat) (whole : Bool) (h : n ≤ 20) : long n m whole ≤ digs n + 1 := by
  obtain ⟨h1, h2⟩ := digs_le n h
  exact long_le _ n m whole h1 h h2

theorem long_zero (n m : Nat) (h1 : 1 ≤ m) (h2 : m ≤ n) : (long n m true = 0) ↔ m = n := by
  constructor
  · intro h
    by_cases hm : m = n
    · exact hm
    · by_cases hi : m ≤ half n
      · rw [long_left n m true (by omega) hm hi] at h; omega
      · rw [long_right n m true (by omega) hm hi] at h; omega
  · intro hm; rw [long_all n m true hm]; rfl

/-! ### What is digested -/

def texts (l : List ByteArray) : List ByteArray :=
  if l.length = 0 then [Dg.joined [wEmpty]]
  else if h : l.length ≤ 1 then [Dg.joined [wLeaf, l.getD 0 ByteArray.empty]]
  else
    have := take_lt l h
    have := drop_lt l h
    texts (l.take (half l.length)) ++ texts (l.drop (half l.length)) ++ [Dg.joined [wNode, root (l.take (half l.length)), root (l.drop (half l.length))]]
termination_by l.length
decreasing_by all_goals assumption

theorem texts_one (l : List ByteArray) (h : l.length = 1) : texts l = [Dg.joined [wLeaf, l.getD 0 ByteArray.empty]] := by rw [texts, if_neg (by omega), dif_pos (by omega)]
theorem texts_node (l : List ByteArray) (h : 1 < l.length) : texts l = texts (l.take (half l.length)) ++ texts (l.drop (half l.length)) ++ [Dg.joined [wNode, root (l.take (half l.length)), root (l.drop (half l.length))]] := by
  rw [texts, if_neg (by omega), dif_neg (by omega)]

def pathTexts (n i : Nat) (s : ByteArray) (p : List ByteArray) : List ByteArray :=
  if h : n ≤ 1 then [Dg.joined [wLeaf, s]]
  else
    have := half_lt n (by omega)
    have := sub_lt_of n h
    if i < half n then pathTexts (half n) i s p.dropLast ++ [Dg.joined [wNode, up (half n) i (leaf s) p.dropLast, last p]]
    else pathTexts (n - half n) (i - half n) s p.dropLast ++ [Dg.joined [wNode, last p, up (n - half n) (i - half n) (leaf s) p.dropLast]]
termination_by n

theorem pathTexts_one (n i : Nat) (s : ByteArray) (p : List ByteArray) (h : n ≤ 1) : pathTexts n i s p = [Dg.joined [wLeaf, s]] := by rw [pathTexts, dif_pos h]
theorem pathTexts_left (n i : Nat) (s : ByteArray) (p : List ByteArray) (h : 1 < n) (hi : i < half n) : pathTexts n i s p = pathTexts (half n) i s p.dropLast ++ [Dg.joined [wNode, up (half n) i (leaf s) p.dropLast, last p]] := by
  rw [pathTexts, dif_neg (by omega), if_pos hi]
theorem pathTexts_right (n i : Nat) (s : ByteArray) (p : List ByteArray) (h : 1 < n) (hi : ¬ i < half n) : pathTexts n i s p = pathTexts (n - half n) (i - half n) s p.dropLast ++ [Dg.joined [wNode, last p, up (n - half n) (i - half n) (leaf s) p.dropLast]] := by
  rw [pathTexts, dif_neg (by omega), if_neg hi]

/-- Two different strings with one digest, one of each list. -/
def Coll (a b : List ByteArray) : Prop := ∃ x ∈ a, ∃ y ∈ b, x ≠ y ∧ Dg.sum x = Dg.sum y

theorem Coll.mono {a b c d : List ByteArray} (h : Coll a b) (h1 : ∀ x ∈ a, x ∈ c) (h2 : ∀ x ∈ b, x ∈ d) : Coll c d := by
  obtain ⟨x, hx, y, hy, h⟩ := h
  exact ⟨x, h1 x hx, y, h2 y hy, h⟩

/-- Two nodes with one digest: the same two strings, or a collision. -/
theorem node_coll (a b c d : ByteArray) (h : node a b = node c d) : (a = c ∧ b = d) ∨ (Dg.joined [wNode, a, b] ≠ Dg.joined [wNode, c, d] ∧ Dg.sum (Dg.joined [wNode, a, b]) = Dg.sum (Dg.joined [wNode, c, d])) := by
  by_cases he : Dg.joined [wNode, a, b] = Dg.joined [wNode, c, d]
  · have := Dg.joined_inj _ _ (by rfl) he
    simp only [List.cons.injEq, and_true, true_and] at this
    exact .inl this
  · exact .inr ⟨he, h⟩

theorem leaf_coll (a c : ByteArray) (hne : a ≠ c) (h : leaf a = leaf c) : Dg.joined [wLeaf, a] ≠ Dg.joined [wLeaf, c] ∧ Dg.sum (Dg.joined [wLeaf, a]) = Dg.sum (Dg.joined [wLeaf, c]) := by
  refine ⟨fun he => hne ?_, h⟩
  have := Dg.joined_inj _ _ (by rfl) he
  simp only [List.cons.injEq, and_true, true_and] at this
  exact this

/-! ### A path that proves another element shows a collision -/

theorem binds (l : List ByteArray) : ∀ i s p, i < l.length → s ≠ l.getD i ByteArray.empty → up l.length i (leaf s) p = root l → Coll (texts l) (pathTexts l.length i s p) := by
  induction l using list_ind with
  | h l ih =>
    intro i s p hl hs hu
    by_cases h1 : l.length ≤ 1
    · have : i = 0 := by omega
      subst this
      rw [up_one _ _ _ _ h1, root_one l (by omega)] at hu
      rw [texts_one l (by omega), pathTexts_one _ _ _ _ h1]
      obtain ⟨c1, c2⟩ := leaf_coll _ _ hs hu
      exact ⟨_, by simp, _, by simp, fun e => c1 e.symm, c2.symm⟩
    · obtain ⟨ia, ib⟩ := ih (by omega)
      rw [texts_node l (by omega)]
      by_cases hi : i < half l.length
      · rw [pathTexts_left _ _ _ _ (by omega) hi]
        rw [up_left _ _ _ _ (by omega) hi, root_node l (by omega)] at hu
        rcases node_coll _ _ _ _ hu with ⟨e1, e2⟩ | ⟨c1, c2⟩
        · have := ia i s p.dropLast (by rw [take_len l (by omega)]; exact hi) (by rw [getD_take _ _ _ hi]; exact hs) (by rw [take_len l (by omega)]; exact e1)
          rw [take_len l (by omega)] at this
          exact this.mono (fun x hx => by simp [hx]) (fun x hx => by simp [hx])
        · exact ⟨_, List.mem_append_right _ (List.mem_singleton.2 rfl), _, List.mem_append_right _ (List.mem_singleton.2 rfl), fun e => c1 e.symm, c2.symm⟩
      · rw [pathTexts_right _ _ _ _ (by omega) hi]
        rw [up_right _ _ _ _ (by omega) hi, root_node l (by omega)] at hu
        rcases node_coll _ _ _ _ hu with ⟨e1, e2⟩ | ⟨c1, c2⟩
        · have := ib (i - half l.length) s p.dropLast (by rw [drop_len]; omega) (by rw [getD_drop _ _ _ (by omega)]; exact hs) (by rw [drop_len]; exact e2)
          rw [drop_len] at this
          exact this.mono (fun x hx => by simp [hx]) (fun x hx => by simp [hx])
        · exact ⟨_, List.mem_append_right _ (List.mem_singleton.2 rfl), _, List.mem_append_right _ (List.mem_singleton.2 rfl), fun e => c1 e.symm, c2.symm⟩

/-! ### Equal roots of different lists show a collision -/

theorem roots (a : List ByteArray) : ∀ b, a.length = b.length → a ≠ b → root a = root b → Coll (texts a) (texts b) := by
  induction a using list_ind with
  | h a ih =>
    intro b hlen hne hr
    by_cases h0 : a.length = 0
    · exact absurd ((List.eq_nil_of_length_eq_zero h0).trans (List.eq_nil_of_length_eq_zero (hlen ▸ h0)).symm) hne
    · by_cases h1 : a.length ≤ 1
      · rw [root_one a (by omega), root_one b (by omega)] at hr
        rw [texts_one a (by omega), texts_one b (by omega)]
        obtain ⟨x, hx⟩ := List.length_eq_one_iff.1 (show a.length = 1 by omega)
        obtain ⟨y, hy⟩ := List.length_eq_one_iff.1 (show b.length = 1 by omega)
        subst hx; subst hy
        obtain ⟨c1, c2⟩ := leaf_coll x y (fun e => hne (by rw [e])) hr
        exact ⟨_, List.mem_singleton.2 rfl, _, List.mem_singleton.2 rfl, c1, c2⟩
      · obtain ⟨ia, ib⟩ := ih (by omega)
        rw [root_node a (by omega), root_node b (by omega)] at hr
        rw [texts_node a (by omega), texts_node b (by omega)]
        rcases node_coll _ _ _ _ hr with ⟨e1, e2⟩ | ⟨c1, c2⟩
        · by_cases hh : a.take (half a.length) = b.take (half b.length)
          · have hd : a.drop (half a.length) ≠ b.drop (half b.length) := fun hd => hne (by rw [← List.take_append_drop (half a.length) a, ← List.take_append_drop (half b.length) b, hh, hd])
            have := ib (b.drop (half b.length)) (by rw [List.length_drop, List.length_drop, hlen]) hd e2
            exact this.mono (fun x hx => by simp [hx]) (fun x hx => by simp [hx])
          · have := ia (b.take (half b.length)) (by rw [List.length_take, List.length_take, hlen]) hh e1
            exact this.mono (fun x hx => by simp [hx]) (fun x hx => by simp [hx])
        · exact ⟨_, List.mem_append_right _ (List.mem_singleton.2 rfl), _, List.mem_append_right _ (List.mem_singleton.2 rfl), c1, c2⟩

/-! ### A link proves its beginning -/

theorem link_length (l : List ByteArray) : ∀ m whole, 1 ≤ m → m ≤ l.length → (link l m whole).length = long l.length m whole := by
  induction l using list_ind with
  | h l ih =>
    intro m whole h1 h2
    by_cases hm : m = l.length
    · rw [link_all l m whole hm, long_all _ m whole hm]; cases whole <;> rfl
    · obtain ⟨ia, ib⟩ := ih (by omega)
      by_cases hi : m ≤ half l.length
      · rw [link_left l m whole (by omega) hm hi, long_left _ m whole (by omega) hm hi, List.length_append, ia m whole h1 (by rw [take_len l (by omega)]; exact hi), take_len l (by omega)]
        simp; omega
      · rw [link_right l m whole (by omega) hm hi, long_right _ m whole (by omega) hm hi, List.length_append, ib (m - half l.length) false (by omega) (by rw [drop_len]; omega), drop_len]
        simp; omega

theorem link_proper (l : List ByteArray) : ∀ m whole, 1 ≤ m → m ≤ l.length → proper (link l m whole) = true := by
  induction l using list_ind with
  | h l ih =>
    intro m whole h1 h2
    by_cases hm : m = l.length
    · rw [link_all l m whole hm]
      cases whole with
      | true => rfl
      | false => exact proper_snoc [] _ rfl (isD_root _)
    · obtain ⟨ia, ib⟩ := ih (by omega)
      by_cases hi : m ≤ half l.length
      · rw [link_left l m whole (by omega) hm hi]
        exact proper_snoc _ _ (ia m whole h1 (by rw [take_len l (by omega)]; exact hi)) (isD_root _)
      · rw [link_right l m whole (by omega) hm hi]
        exact proper_snoc _ _ (ib (m - half l.length) false (by omega) (by rw [drop_len]; omega)) (isD_root _)

theorem take_half (l : List ByteArray) (m : Nat) (h20 : l.length ≤ 20) (h : half l.length < m) (h2 : m ≤ l.length) :
    root (l.take m) = node (root (l.take (half l.length))) (root ((l.drop (half l.length)).take (m - half l.length))) ∧
    texts (l.take m) = texts (l.take (half l.length)) ++ texts ((l.drop (half l.length)).take (m - half l.length)) ++ [Dg.joined [wNode, root (l.take (half l.length)), root ((l.drop (half l.length)).take (m - half l.length))]] := by
  have hp := half_pos l.length
  have hlen : (l.take m).length = m := by rw [List.length_take]; omega
  have hh : half (l.take m).length = half l.length := by rw [hlen]; exact half_same _ h20 m h2 h (by omega)
  rw [root_node (l.take m) (by omega), texts_node (l.take m) (by omega), hh, List.take_take, List.drop_take, Nat.min_eq_left (by omega)]
  exact ⟨rfl, rfl⟩

theorem both_link (l : List ByteArray) : ∀ m whole old, l.length ≤ 20 → 1 ≤ m → m ≤ l.length → (whole = true → old = root (l.take m)) → both l.length m whole old (link l m whole) = (root (l.take m), root l) := by
  induction l using list_ind with
  | h l ih =>
    intro m whole old h20 h1 h2 ho
    by_cases hm : m = l.length
    · rw [link_all l m whole hm, both_all _ _ _ _ _ hm]
      have hr : l.take m = l := by rw [hm]; exact List.take_length
      rw [hr] at ho ⊢
      cases whole with
      | true => rw [ho rfl]; rfl
      | false => rfl
    · obtain ⟨ia, ib⟩ := ih (by omega)
      have h3 := half_lt l.length (by omega)
      by_cases hi : m ≤ half l.length
      · have hl := take_len l (by omega)
        have ht : (l.take (half l.length)).take m = l.take m := by rw [List.take_take, Nat.min_eq_left hi]
        have e := ia m whole old (by omega) h1 (by omega) (by rw [ht]; exact ho)
        rw [hl, ht] at e
        rw [link_left l m whole (by omega) hm hi, both_left _ _ _ _ _ (by omega) hm hi, List.dropLast_concat, last_snoc, e, root_node l (by omega)]
      · have e := ib (m - half l.length) false old (by rw [drop_len]; omega) (by omega) (by rw [drop_len]; omega) (by simp)
        rw [drop_len] at e
        rw [link_right l m whole (by omega) hm hi, both_right _ _ _ _ _ (by omega) hm hi, List.dropLast_concat, last_snoc, e, root_node l (by omega), (take_half l m h20 (by omega) h2).1]

/-! ### A link that proves another beginning shows a collision -/

end Go.Proofs.YteofiiggnegnkaaDoor.Tr
/- The tree's functions and the reference's, as the print has them, compute the plain ones: halves, roots, paths, links. -/
namespace Go.Proofs.YteofiiggnegnkaaDoor.P
open Go.RowKit Go.Proofs.YteofiiggnegnkaaDoor Go.Proofs.YteofiiggnegnkaaDoorW.PrintWords Go.Proofs.YteofiiggnegnkaaDoorW.PrintLast Go.Proofs.YteofiiggnegnkaaDoorW.PrintMore
set_option linter.unusedVariables false
set_option linter.unusedSimpArgs false

/-- At most 20 strings of at most 100 bytes. -/
def Small (l : List ByteArray) : Prop := ∀ x ∈ l, x.size ≤ 100

theorem Small.take {l : List ByteArray} (h : Small l) (k : Nat) : Small (l.take k) := fun x hx => h x (List.mem_of_mem_take hx)
theorem Small.drop {l : List ByteArray} (h : Small l) (k : Nat) : Small (l.drop k) := fun x hx => h x (List.mem_of_mem_drop hx)
theorem Small.getD {l : List ByteArray} (h : Small l) (i : Nat) : (l.getD i ByteArray.empty).size ≤ 100 := by
  rw [List.getD_eq_getElem?_getD]
  rcases Nat.lt_or_ge i l.length with h1 | h1
  · rw [List.getElem?_eq_getElem h1]; exact h _ (List.getElem_mem h1)
  · rw [List.getElem?_eq_none h1]; decide
theorem Small.cons {x : ByteArray} {l : List ByteArray} (h1 : x.size ≤ 100) (h : Small l) : Small (x :: l) := fun y hy => by
  rcases List.mem_cons.1 hy with rfl | h2
  · exact h1
  · exact h y h2
theorem Small.nil : Small [] := fun y hy => by cases hy
theorem Small.append {l m : List ByteArray} (h1 : Small l) (h2 : Small m) : Small (l ++ m) := fun y hy => by
  rcases List.mem_append.1 hy with h | h
  · exact h1 y h
  · exact h2 y h
theorem Small.dropLast {l : List ByteArray} (h : Small l) : Small l.dropLast := fun x hx => h x ((List.dropLast_sublist l).subset hx)
theorem Small.last {l : List ByteArray} (h : Small l) : (Tr.last l).size ≤ 100 := by
  unfold Tr.last
  cases hl : l.getLast? with
  | none => decide
  | some x => exact h x (List.mem_of_getLast? hl)

theorem root_size (l : List ByteArray) : (Tr.root l).size = 16 := by
  have := Tr.isD_root l
  unfold Dg.isD at this
  rw [Bool.and_eq_true, beq_iff_eq] at this
  exact this.1
theorem isD_size {x : ByteArray} (h : Dg.isD x = true) : x.size = 16 := by
  unfold Dg.isD at h
  rw [Bool.and_eq_true, beq_iff_eq] at h
  exact h.1
theorem joined_small (l : List ByteArray) (h : Small l) : (Dg.joinedL l).length ≤ l.length * 122 := by
  induction l with
  | nil => simp [Dg.joinedL]
  | cons x l ih =>
    have h1 := Dg.piece_le x (by have := h x (by simp); omega)
    have h2 := h x (by simp)
    have h3 := ih fun y hy => h y (by simp [hy])
    simp only [Dg.joinedL, List.flatMap_cons, List.length_append, List.length_cons] at h3 ⊢
    omega

theorem dig_list3 (l : List ByteArray) (h3 : l.length ≤ 3) (h : Small l) : digest_List.f l = some (Dg.list l) := by
  have := joined_small l h
  unfold digest_List.f
  rw [if_pos ⟨by omega, by omega⟩]

/-! ### Halves -/

theorem half_loop (n : Nat) (hn : n ≤ 1000000) : ∀ f c k : Nat, f < k → 1 ≤ c → c ≤ n → n ≤ c * 2 ^ f → tree_half.l0 k (n : Int) (c : Int) = some ((Tr.halfGo f c n : Nat) : Int) := by
  intro f
  induction f with
  | zero =>
    intro c k hk h1 h2 h3
    obtain ⟨k, rfl⟩ : ∃ k', k = k' + 1 := ⟨k - 1, by omega⟩
    have hw : wrap64 ((c : Int) * 2) = ((c * 2 : Nat) : Int) := by rw [IntWalk.wrap64_in _ (by omega)]; omega
    rw [tree_half.l0, hw, if_neg (by omega)]; rfl
  | succ f ih =>
    intro c k hk h1 h2 h3
    obtain ⟨k, rfl⟩ : ∃ k', k = k' + 1 := ⟨k - 1, by omega⟩
    have hw : wrap64 ((c : Int) * 2) = ((c * 2 : Nat) : Int) := by rw [IntWalk.wrap64_in _ (by omega)]; omega
    rw [tree_half.l0, hw]
    simp only [Tr.halfGo]
    by_cases h : c * 2 < n
    · rw [if_pos (by omega), if_pos h]
      exact ih (c * 2) k (by omega) (by omega) (by omega) (by rw [Nat.mul_assoc, ← Nat.pow_succ']; exact h3)
    · rw [if_neg (by omega), if_neg h]

theorem half_is (n : Nat) (h1 : 1 ≤ n) (hn : n ≤ 1000000) (k : Nat) (hk : 100 ≤ k) : tree_half.f k (n : Int) = some ((Tr.half n : Nat) : Int) :=
  half_loop n hn 64 1 k (by omega) (by omega) h1 (by omega)

/-! ### Roots -/

theorem node_is (a b : ByteArray) (ha : a.size ≤ 100) (hb : b.size ≤ 100) : tree_node.f a b = some (Tr.node a b) := by
  unfold tree_node.f
  rw [dig_list3 _ (by simp) (.cons (by decide) (.cons ha (.cons hb .nil)))]
  rfl

theorem root_is (l : List ByteArray) : ∀ k : Nat, l.length ≤ 20 → Small l → 1400 + l.length ≤ k → tree_Root.f k l = some (Tr.root l) := by
  induction l using Tr.list_ind with
  | h l ih =>
    intro k h20 hs hk
    obtain ⟨k, rfl⟩ : ∃ k', k = k' + 1 := ⟨k - 1, by omega⟩
    by_cases h0 : l.length = 0
    · rw [tree_Root.f, if_pos (by omega), Tr.root_zero l h0, dig_list3 _ (by simp) (.cons (by decide) .nil)]
      rfl
    · by_cases h1 : l.length = 1
      · rw [tree_Root.f, if_neg (by omega), if_pos (by omega), if_pos (by omega), Tr.root_one l h1, show rdOf ByteArray.empty l 0 = l.getD 0 ByteArray.empty from rfl, dig_list3 _ (by simp) (.cons (by decide) (.cons (hs.getD 0) .nil))]
        rfl
      · obtain ⟨ia, ib⟩ := ih (by omega)
        have h2 := Tr.half_lt l.length (by omega)
        have h3 := Tr.half_pos l.length
        have hl := Tr.take_len l (by omega)
        have hr := Tr.drop_len l
        rw [tree_Root.f, if_neg (by omega), if_neg (by omega), half_is _ (by omega) (by omega) k (by omega), Option.bind_some, if_pos (by omega), if_pos (by omega)]
        simp only [Int.toNat_natCast]
        rw [ia k (by omega) (hs.take _) (by omega), Option.bind_some, ib k (by omega) (hs.drop _) (by omega), Option.bind_some, node_is _ _ (by rw [root_size]; omega) (by rw [root_size]; omega), Tr.root_node l (by omega)]
        rfl

/-! ### A list the other way round -/

theorem rev_loop : ∀ (n : Nat) (M : List ByteArray), M.length = n → ∀ (A B : List ByteArray) (k : Nat), A.length + M.length + B.length ≤ 1000000 → n < k →
    slices_Reverse_string_string.l0 k (A ++ M ++ B) (A.length : Int) ((A.length : Int) + M.length - 1) = some (A ++ M.reverse ++ B) := by
  intro n
  induction n using Nat.strongRecOn with
  | _ n ih =>
    intro M hM A B k hb hk
    obtain ⟨k, rfl⟩ : ∃ k', k = k' + 1 := ⟨k - 1, by omega⟩
    rcases M with _ | ⟨a, M⟩
    · rw [slices_Reverse_string_string.l0, if_neg (by simp only [List.length_nil]; omega)]; simp
    · rcases List.eq_nil_or_concat M with rfl | ⟨M', b, rfl⟩
      · rw [slices_Reverse_string_string.l0, if_neg (by simp only [List.length_cons, List.length_nil]; omega)]; simp
      · simp only [List.concat_eq_append] at hM hb ⊢
        simp only [List.length_cons, List.length_append, List.length_nil] at hM hb ⊢
        have hlen : (A ++ a :: (M' ++ [b]) ++ B).length = A.length + (M'.length + 2) + B.length := by simp; omega
        have hj : (A.length : Int) + ((M'.length + (0 + 1) + 1 : Nat) : Int) - 1 = ((A.length + M'.length + 1 : Nat) : Int) := by omega
        rw [hj, slices_Reverse_string_string.l0, if_pos (by omega), if_pos (by omega), if_pos (by omega), if_pos (by omega), if_pos (by omega)]
        have w1 : wrap64 ((A.length : Int) + 1) = ((A.length + 1 : Nat) : Int) := by rw [IntWalk.wrap64_in _ (by omega)]; omega
        have w2 : wrap64 (((A.length + M'.length + 1 : Nat) : Int) - 1) = ((A.length + M'.length : Nat) : Int) := by rw [IntWalk.wrap64_in _ (by omega)]; omega
        rw [w1, w2, rd_nat, rd_nat]
        simp only [Int.toNat_natCast]
        have q1 : A ++ a :: (M' ++ [b]) ++ B = (A ++ a :: M') ++ b :: B := by simp
        have q2 : (A ++ a :: M').length = A.length + M'.length + 1 := by simp; omega
        have g1 : (A ++ a :: (M' ++ [b]) ++ B).getD (A.length + M'.length + 1) ByteArray.empty = b := by
          rw [q1, ← q2, List.getD_eq_getElem?_getD, List.getElem?_append_right (Nat.le_refl _)]
          simp
        have g2 : (A ++ a :: (M' ++ [b]) ++ B).getD A.length ByteArray.empty = a := by
          rw [List.getD_eq_getElem?_getD]
          simp [List.getElem?_append]
        rw [g1, g2]
        have s1 : ((A ++ a :: (M' ++ [b]) ++ B).set A.length b).set (A.length + M'.length + 1) a = (A ++ [b]) ++ M' ++ ([a] ++ B) := by
          have q3 : (A ++ a :: (M' ++ [b]) ++ B).set A.length b = (A ++ b :: M') ++ b :: B := by
            rw [q1, List.append_assoc, List.set_append_right _ _ (Nat.le_refl _)]
            simp
          have q4 : (A ++ b :: M').length = A.length + M'.length + 1 := by simp; omega
          rw [q3, ← q4, List.set_append_right _ _ (Nat.le_refl _)]
          simp
        rw [s1]
        have e := ih M'.length (by omega) M' rfl (A ++ [b]) ([a] ++ B) k (by simp; omega) (by omega)
        rw [show ((A ++ [b]).length : Int) = ((A.length + 1 : Nat) : Int) by simp, show ((A.length + 1 : Nat) : Int) + (M'.length : Int) - 1 = ((A.length + M'.length : Nat) : Int) by omega] at e
        rw [e]
        simp

theorem rev_is (l : List ByteArray) (h : l.length ≤ 1000) (k : Nat) (hk : l.length < k) : slices_Reverse_string_string.f k l = some l.reverse := by
  unfold slices_Reverse_string_string.f
  have e := rev_loop l.length l rfl [] [] k (by simp; omega) hk
  have w : wrap64 ((l.length : Int) - 1) = (([] : List ByteArray).length : Int) + l.length - 1 := by rw [IntWalk.wrap64_in _ (by omega)]; simp
  rw [w]
  simp only [List.nil_append, List.append_nil] at e
  exact e

/-! ### The tree's paths and links -/

theorem path_loop (l : List ByteArray) : ∀ (i k : Nat) (acc : List ByteArray), l.length ≤ 20 → Small l → i < l.length → acc.length + l.length ≤ 100 → 1600 + l.length ≤ k →
    tree_Path.l0 k l (i : Int) acc = some (Tr.path l i ++ acc.reverse, 0) := by
  induction l using Tr.list_ind with
  | h l ih =>
    intro i k acc h20 hs hi ha hk
    obtain ⟨k, rfl⟩ : ∃ k', k = k' + 1 := ⟨k - 1, by omega⟩
    by_cases h1 : l.length ≤ 1
    · rw [tree_Path.l0, if_neg (by omega), rev_is acc (by omega) k (by omega), Tr.path_one l i h1]
      rfl
    · obtain ⟨ia, ib⟩ := ih (by omega)
      have h2 := Tr.half_lt l.length (by omega)
      have h3 := Tr.half_pos l.length
      have hl := Tr.take_len l (by omega)
      have hr := Tr.drop_len l
      rw [tree_Path.l0, if_pos (by omega), half_is _ (by omega) (by omega) k (by omega), Option.bind_some]
      simp only [Int.toNat_natCast]
      by_cases hh : i < Tr.half l.length
      · rw [if_pos (by omega), if_pos (by omega), if_pos (by omega), root_is _ k (by omega) (hs.drop _) (by omega), Option.bind_some, if_pos (by omega), ia i k _ (by omega) (hs.take _) (by omega) (by rw [List.length_append, List.length_singleton]; omega) (by omega), Tr.path_left l i (by omega) hh]
        simp
      · have w : wrap64 ((i : Int) - ((Tr.half l.length : Nat) : Int)) = ((i - Tr.half l.length : Nat) : Int) := by rw [IntWalk.wrap64_in _ (by omega)]; omega
        rw [if_neg (by omega), if_pos (by omega), if_pos (by omega), root_is _ k (by omega) (hs.take _) (by omega), Option.bind_some, if_pos (by omega), w, ib _ k _ (by omega) (hs.drop _) (by omega) (by rw [List.length_append, List.length_singleton]; omega) (by omega), Tr.path_right l i (by omega) hh]
        simp

theorem path_is (l : List ByteArray) (i : Nat) (h20 : l.length ≤ 20) (hs : Small l) (hi : i < l.length) (k : Nat) (hk : 1700 ≤ k) : tree_Path.f k l (i : Int) = some (Tr.path l i, 0) := by
  obtain ⟨k, rfl⟩ : ∃ k', k = k' + 1 := ⟨k - 1, by omega⟩
  unfold tree_Path.f
  rw [if_neg (by omega), decide_eq_false (by omega), tree_Path.j0, if_neg (by decide), path_loop l i k [] h20 hs hi (by simp; omega) (by omega)]
  simp

theorem path_bad (l : List ByteArray) (i : Int) (hi : i < 0 ∨ (l.length : Int) ≤ i) (k : Nat) (hk : 1 ≤ k) : tree_Path.f k l i = some ([], 1) := by
  obtain ⟨k, rfl⟩ : ∃ k', k = k' + 1 := ⟨k - 1, by omega⟩
  unfold tree_Path.f
  split
  · rw [tree_Path.j0, if_pos rfl]
  · rw [decide_eq_true (by omega), tree_Path.j0, if_pos rfl]

theorem link_loop (l : List ByteArray) : ∀ (m k : Nat) (acc : List ByteArray) (whole : Bool), l.length ≤ 20 → Small l → 1 ≤ m → m ≤ l.length → acc.length + l.length ≤ 100 → 1600 + l.length ≤ k →
    tree_Link.l0 k l (m : Int) acc whole = some (Tr.link l m whole ++ acc.reverse, 0) := by
  induction l using Tr.list_ind with
  | h l ih =>
    intro m k acc whole h20 hs h1 hm ha hk
    obtain ⟨k, rfl⟩ : ∃ k', k = k' + 1 := ⟨k - 1, by omega⟩
    by_cases he : m = l.length
    · rw [tree_Link.l0, if_neg (by omega), Tr.link_all l m whole he]
      cases whole with
      | true => rw [if_pos rfl, rev_is acc (by omega) k (by omega)]; rfl
      | false =>
        rw [if_neg (by decide), root_is l k h20 hs (by omega), Option.bind_some, if_pos (by omega), rev_is _ (by rw [List.length_append, List.length_singleton]; omega) k (by rw [List.length_append, List.length_singleton]; omega)]
        simp
    · obtain ⟨ia, ib⟩ := ih (by omega)
      have h2 := Tr.half_lt l.length (by omega)
      have h3 := Tr.half_pos l.length
      have hl := Tr.take_len l (by omega)
      have hr := Tr.drop_len l
      rw [tree_Link.l0, if_pos (by omega), half_is _ (by omega) (by omega) k (by omega), Option.bind_some]
      simp only [Int.toNat_natCast]
      by_cases hh : m ≤ Tr.half l.length
      · rw [if_pos (by omega), if_pos (by omega), if_pos (by omega), root_is _ k (by omega) (hs.drop _) (by omega), Option.bind_some, if_pos (by omega), ia m k _ whole (by omega) (hs.take _) h1 (by omega) (by rw [List.length_append, List.length_singleton]; omega) (by omega), Tr.link_left l m whole (by omega) he hh]
        simp
      · have w : wrap64 ((m : Int) - ((Tr.half l.length : Nat) : Int)) = ((m - Tr.half l.length : Nat) : Int) := by rw [IntWalk.wrap64_in _ (by omega)]; omega
        rw [if_neg (by omega), if_pos (by omega), if_pos (by omega), root_is _ k (by omega) (hs.take _) (by omega), Option.bind_some, if_pos (by omega), w, ib _ k _ false (by omega) (hs.drop _) (by omega) (by omega) (by rw [List.length_append, List.length_singleton]; omega) (by omega), Tr.link_right l m whole (by omega) he hh]
        simp

/-- What Link answers for a number that is in range. -/
def linkOf (l : List ByteArray) (m : Nat) : List ByteArray := if m = 0 then [] else Tr.link l m true

theorem link_is (l : List ByteArray) (m : Nat) (h20 : l.length ≤ 20) (hs : Small l) (hm : m ≤ l.length) (k : Nat) (hk : 1700 ≤ k) : tree_Link.f k l (m : Int) = some (linkOf l m, 0) := by
  obtain ⟨k, rfl⟩ : ∃ k', k = k' + 1 := ⟨k - 1, by omega⟩
  unfold tree_Link.f linkOf
  rw [if_neg (by omega), decide_eq_false (by omega), tree_Link.j0, if_neg (by decide)]
  by_cases h0 : m = 0
  · rw [if_pos (by omega), if_pos h0]
  · rw [if_neg (by omega), if_neg h0, link_loop l m k [] true h20 hs (by omega) hm (by simp; omega) (by omega)]
    simp

theorem check_is (r : ByteArray) (n i : Int) (x : ByteArray) (p : List ByteArray) (hp : p.length ≤ 1000) (hx : x.size ≤ 1000) : tree_Check.f r n i x p = some (Tr.check r n i x p) := by
  unfold tree_Check.f; rw [if_pos ⟨by omega, by omega⟩]
theorem extends_is (o : ByteArray) (m : Int) (r : ByteArray) (n : Int) (p : List ByteArray) (hp : p.length ≤ 1000) : tree_Extends.f o m r n p = some (Tr.extends_ o m r n p) := by
  unfold tree_Extends.f; rw [if_pos (by omega)]

/-! ### The reference's paths and links -/

end Go.Proofs.YteofiiggnegnkaaDoor.P
/- The reference's tests of paths and links, as the print has them, compute the plain ones; the strings that are digested; what shows a collision. -/
namespace Go.Proofs.YteofiiggnegnkaaDoor.P
open Go.RowKit Go.Proofs.YteofiiggnegnkaaDoor Go.Proofs.YteofiiggnegnkaaDoorW.PrintWords Go.Proofs.YteofiiggnegnkaaDoorW.PrintLast Go.Proofs.YteofiiggnegnkaaDoorW.PrintMore
set_option linter.unusedVariables false
set_option linter.unusedSimpArgs false

/-! ### Lengths -/

/-! ### Digests -/

/-! ### The way up -/

/-! ### Check and Extends -/

theorem toList_iff (a b : ByteArray) : a.toList = b.toList ↔ a = b := by
  have := toList_eq_iff a b
  rw [Bool.eq_iff_iff, beq_iff_eq, decide_eq_true_iff] at this
  exact this

end Go.Proofs.YteofiiggnegnkaaDoor.P
/- Equal lists, few strings; the strings that are digested; what shows a collision. -/
namespace Go.Proofs.YteofiiggnegnkaaDoor.P
open Go.RowKit Go.Proofs.YteofiiggnegnkaaDoor Go.Proofs.YteofiiggnegnkaaDoorW.PrintWords Go.Proofs.YteofiiggnegnkaaDoorW.PrintLast Go.Proofs.YteofiiggnegnkaaDoorW.PrintMore
set_option linter.unusedVariables false
set_option linter.unusedSimpArgs false

/-! ### Equal lists, few strings -/

theorem same_loop (a b : List ByteArray) (hl : a.length = b.length) (ha : a.length ≤ 1000) : ∀ (r i k : Nat), i + r = a.length → a.take i = b.take i → r + 2 ≤ k → pandectref01_Same.l0 k a b (i : Int) = some (decide (a = b)) := by
  intro r
  induction r with
  | zero =>
    intro i k hi ht hk
    obtain ⟨k, rfl⟩ : ∃ k', k = k' + 1 := ⟨k - 1, by omega⟩
    rw [pandectref01_Same.l0, if_neg (by omega)]
    rw [show i = a.length by omega, List.take_length, hl, List.take_length] at ht
    rw [decide_eq_true ht]
  | succ r ih =>
    intro i k hi ht hk
    obtain ⟨k, rfl⟩ : ∃ k', k = k' + 1 := ⟨k - 1, by omega⟩
    have w : wrap64 ((i : Int) + 1) = ((i + 1 : Nat) : Int) := by rw [IntWalk.wrap64_in _ (by omega)]; omega
    rw [pandectref01_Same.l0, if_pos (by omega), if_pos (by omega), if_pos (by omega), rd_lt a i (by omega), rd_lt b i (by omega), w]
    by_cases he : a[i]'(by omega) = b[i]'(by omega)
    · rw [if_pos (by rw [he])]
      refine ih (i + 1) k (by omega) ?_ (by omega)
      rw [List.take_succ_eq_append_getElem (by omega), List.take_succ_eq_append_getElem (by omega), ht, he]
    · rw [if_neg (fun h => he ((toList_iff _ _).1 h)), decide_eq_false]
      intro h; subst h; exact he rfl

theorem same_is (a b : List ByteArray) (ha : a.length ≤ 1000) (k : Nat) (hk : 1100 ≤ k) : pandectref01_Same.f k a b = some (decide (a = b)) := by
  unfold pandectref01_Same.f
  by_cases hl : a.length = b.length
  · rw [if_pos (by omega)]
    exact same_loop a b hl ha a.length 0 k (by omega) (by simp) (by omega)
  · rw [if_neg (by omega), decide_eq_false]
    intro h; subst h; exact hl rfl

theorem few_loop (l : List ByteArray) (h20 : l.length ≤ 20) : ∀ (r i k : Nat), i + r = l.length → (∀ x ∈ l.take i, x.size ≤ 100) → r + 2 ≤ k → ∃ b, pandectref01_Few.l0 k l 100 (i : Int) = some b ∧ (b = true ↔ Small l) := by
  intro r
  induction r with
  | zero =>
    intro i k hi ht hk
    obtain ⟨k, rfl⟩ : ∃ k', k = k' + 1 := ⟨k - 1, by omega⟩
    rw [show i = l.length by omega, List.take_length] at ht
    refine ⟨true, ?_, fun _ => ht, fun _ => rfl⟩
    rw [pandectref01_Few.l0, if_neg (by omega), decide_eq_true (by omega)]
  | succ r ih =>
    intro i k hi ht hk
    obtain ⟨k, rfl⟩ : ∃ k', k = k' + 1 := ⟨k - 1, by omega⟩
    have w : wrap64 ((i : Int) + 1) = ((i + 1 : Nat) : Int) := by rw [IntWalk.wrap64_in _ (by omega)]; omega
    rw [pandectref01_Few.l0, if_pos (by omega), if_pos (by omega), rd_lt l i (by omega), w]
    by_cases he : (l[i]'(by omega)).size ≤ 100
    · rw [if_neg (by omega)]
      refine ih (i + 1) k (by omega) ?_ (by omega)
      intro x hx
      rw [List.take_succ_eq_append_getElem (by omega)] at hx
      rcases List.mem_append.1 hx with h | h
      · exact ht x h
      · rw [List.mem_singleton.1 h]; exact he
    · rw [if_pos (by omega)]
      exact ⟨false, rfl, fun h => (by cases h), fun h => absurd (h _ (List.getElem_mem (by omega))) he⟩

/-- few: at most 20 strings of at most 100 bytes. -/
theorem few_is (l : List ByteArray) (k : Nat) (hk : 100 ≤ k) : ∃ b, pandectlaw02_few.f k l = some b ∧ (b = true ↔ l.length ≤ 20 ∧ Small l) := by
  unfold pandectlaw02_few.f
  by_cases h : l.length ≤ 20
  · obtain ⟨b, h1, h2⟩ := few_loop l h l.length 0 k (by omega) (by simp) (by omega)
    refine ⟨b, ?_, by rw [h2]; exact ⟨fun h3 => ⟨h, h3⟩, fun h3 => h3.2⟩⟩
    rw [if_pos (by omega)]
    have h3 : pandectref01_Few.f k l 100 = some b := h1
    rw [h3]; rfl
  · exact ⟨false, by rw [if_neg (by omega)], fun h1 => (by cases h1), fun h1 => absurd h1.1 h⟩

/-! ### What is digested -/

/-! ### Two different strings with one digest are found -/

end Go.Proofs.YteofiiggnegnkaaDoor.P
/- The examples at the head of chapter 02 of the laws. -/
namespace Go.Proofs.YteofiiggnegnkaaDoor.P
open Go.RowKit Go.Proofs.YteofiiggnegnkaaDoor Go.Proofs.YteofiiggnegnkaaDoorW.PrintWords Go.Proofs.YteofiiggnegnkaaDoorW.PrintLast Go.Proofs.YteofiiggnegnkaaDoorW.PrintMore
set_option linter.unusedVariables false
set_option linter.unusedSimpArgs false

theorem piece_lit (s : ByteArray) (n : Nat) (d : List UInt8) (hn : s.size = n) (hd : Lib.itoa n = d) : Dg.piece s = d ++ 58 :: s.data.toList := by
  unfold Dg.piece; rw [hn, hd]
theorem itoa_1 : Lib.itoa ((1 : Nat) : Int) = [49] := by rw [Lib.itoa_nonneg, Lib.decDigits_one (by decide)]; rfl
theorem itoa_4 : Lib.itoa ((4 : Nat) : Int) = [52] := by rw [Lib.itoa_nonneg, Lib.decDigits_one (by decide)]; rfl
theorem itoa_16 : Lib.itoa ((16 : Nat) : Int) = [49, 54] := by rw [Lib.itoa_nonneg, Lib.decDigits_two (by decide) (by decide)]; rfl
theorem list_lit (l : List ByteArray) (bs ds : List UInt8) (h : Dg.joinedL l = bs) (hd : Dg.sumL bs = ds) : Dg.list l = ⟨ds.toArray⟩ := by
  have h1 : Dg.list l = ⟨(Dg.sumL (Dg.joinedL l)).toArray⟩ := rfl
  rw [h1, h, hd]
theorem pc0 : Dg.piece Tr.wLeaf = [52, 58, 108, 101, 97, 102] := piece_lit _ 4 [52] rfl itoa_4
theorem pc1 : Dg.piece (⟨#[97]⟩ : ByteArray) = [49, 58, 97] := piece_lit _ 1 [49] rfl itoa_1
theorem pc2 : Dg.piece (⟨#[98]⟩ : ByteArray) = [49, 58, 98] := piece_lit _ 1 [49] rfl itoa_1
theorem pc3 : Dg.piece (⟨#[99]⟩ : ByteArray) = [49, 58, 99] := piece_lit _ 1 [49] rfl itoa_1
theorem pc4 : Dg.piece Tr.wNode = [52, 58, 110, 111, 100, 101] := piece_lit _ 4 [52] rfl itoa_4
theorem pc5 : Dg.piece (⟨#[99, 57, 50, 49, 52, 102, 50, 52, 99, 48, 52, 56, 48, 53, 101, 52]⟩ : ByteArray) = [49, 54, 58, 99, 57, 50, 49, 52, 102, 50, 52, 99, 48, 52, 56, 48, 53, 101, 52] := piece_lit _ 16 [49, 54] rfl itoa_16
theorem pc6 : Dg.piece (⟨#[101, 97, 51, 102, 55, 52, 48, 55, 52, 101, 51, 48, 101, 57, 54, 56]⟩ : ByteArray) = [49, 54, 58, 101, 97, 51, 102, 55, 52, 48, 55, 52, 101, 51, 48, 101, 57, 54, 56] := piece_lit _ 16 [49, 54] rfl itoa_16
theorem pc7 : Dg.piece (⟨#[100, 97, 98, 51, 101, 102, 97, 51, 53, 56, 54, 57, 54, 100, 102, 48]⟩ : ByteArray) = [49, 54, 58, 100, 97, 98, 51, 101, 102, 97, 51, 53, 56, 54, 57, 54, 100, 102, 48] := piece_lit _ 16 [49, 54] rfl itoa_16
theorem pc8 : Dg.piece (⟨#[56, 50, 101, 48, 99, 50, 54, 48, 52, 51, 52, 101, 51, 48, 102, 50]⟩ : ByteArray) = [49, 54, 58, 56, 50, 101, 48, 99, 50, 54, 48, 52, 51, 52, 101, 51, 48, 102, 50] := piece_lit _ 16 [49, 54] rfl itoa_16
theorem pc9 : Dg.piece (⟨#[53, 56, 56, 53, 56, 100, 102, 51, 49, 48, 54, 51, 101, 97, 51, 51]⟩ : ByteArray) = [49, 54, 58, 53, 56, 56, 53, 56, 100, 102, 51, 49, 48, 54, 51, 101, 97, 51, 51] := piece_lit _ 16 [49, 54] rfl itoa_16
theorem va : Tr.leaf (⟨#[97]⟩ : ByteArray) = (⟨#[99, 57, 50, 49, 52, 102, 50, 52, 99, 48, 52, 56, 48, 53, 101, 52]⟩ : ByteArray) :=
  list_lit [Tr.wLeaf, (⟨#[97]⟩ : ByteArray)] [52, 58, 108, 101, 97, 102, 49, 58, 97] [99, 57, 50, 49, 52, 102, 50, 52, 99, 48, 52, 56, 48, 53, 101, 52] (by simp only [Dg.joinedL, List.flatMap_cons, List.flatMap_nil, pc0, pc1]; rfl) (by decide +kernel)
theorem vb : Tr.leaf (⟨#[98]⟩ : ByteArray) = (⟨#[101, 97, 51, 102, 55, 52, 48, 55, 52, 101, 51, 48, 101, 57, 54, 56]⟩ : ByteArray) :=
  list_lit [Tr.wLeaf, (⟨#[98]⟩ : ByteArray)] [52, 58, 108, 101, 97, 102, 49, 58, 98] [101, 97, 51, 102, 55, 52, 48, 55, 52, 101, 51, 48, 101, 57, 54, 56] (by simp only [Dg.joinedL, List.flatMap_cons, List.flatMap_nil, pc0, pc2]; rfl) (by decide +kernel)
theorem vc : Tr.leaf (⟨#[99]⟩ : ByteArray) = (⟨#[56, 50, 101, 48, 99, 50, 54, 48, 52, 51, 52, 101, 51, 48, 102, 50]⟩ : ByteArray) :=
  list_lit [Tr.wLeaf, (⟨#[99]⟩ : ByteArray)] [52, 58, 108, 101, 97, 102, 49, 58, 99] [56, 50, 101, 48, 99, 50, 54, 48, 52, 51, 52, 101, 51, 48, 102, 50] (by simp only [Dg.joinedL, List.flatMap_cons, List.flatMap_nil, pc0, pc3]; rfl) (by decide +kernel)
theorem vab : Tr.node (⟨#[99, 57, 50, 49, 52, 102, 50, 52, 99, 48, 52, 56, 48, 53, 101, 52]⟩ : ByteArray) (⟨#[101, 97, 51, 102, 55, 52, 48, 55, 52, 101, 51, 48, 101, 57, 54, 56]⟩ : ByteArray) = (⟨#[100, 97, 98, 51, 101, 102, 97, 51, 53, 56, 54, 57, 54, 100, 102, 48]⟩ : ByteArray) :=
  list_lit [Tr.wNode, (⟨#[99, 57, 50, 49, 52, 102, 50, 52, 99, 48, 52, 56, 48, 53, 101, 52]⟩ : ByteArray), (⟨#[101, 97, 51, 102, 55, 52, 48, 55, 52, 101, 51, 48, 101, 57, 54, 56]⟩ : ByteArray)] [52, 58, 110, 111, 100, 101, 49, 54, 58, 99, 57, 50, 49, 52, 102, 50, 52, 99, 48, 52, 56, 48, 53, 101, 52, 49, 54, 58, 101, 97, 51, 102, 55, 52, 48, 55, 52, 101, 51, 48, 101, 57, 54, 56] [100, 97, 98, 51, 101, 102, 97, 51, 53, 56, 54, 57, 54, 100, 102, 48] (by simp only [Dg.joinedL, List.flatMap_cons, List.flatMap_nil, pc4, pc5, pc6]; rfl) (by decide +kernel)
theorem vbb : Tr.node (⟨#[101, 97, 51, 102, 55, 52, 48, 55, 52, 101, 51, 48, 101, 57, 54, 56]⟩ : ByteArray) (⟨#[101, 97, 51, 102, 55, 52, 48, 55, 52, 101, 51, 48, 101, 57, 54, 56]⟩ : ByteArray) = (⟨#[53, 56, 56, 53, 56, 100, 102, 51, 49, 48, 54, 51, 101, 97, 51, 51]⟩ : ByteArray) :=
  list_lit [Tr.wNode, (⟨#[101, 97, 51, 102, 55, 52, 48, 55, 52, 101, 51, 48, 101, 57, 54, 56]⟩ : ByteArray), (⟨#[101, 97, 51, 102, 55, 52, 48, 55, 52, 101, 51, 48, 101, 57, 54, 56]⟩ : ByteArray)] [52, 58, 110, 111, 100, 101, 49, 54, 58, 101, 97, 51, 102, 55, 52, 48, 55, 52, 101, 51, 48, 101, 57, 54, 56, 49, 54, 58, 101, 97, 51, 102, 55, 52, 48, 55, 52, 101, 51, 48, 101, 57, 54, 56] [53, 56, 56, 53, 56, 100, 102, 51, 49, 48, 54, 51, 101, 97, 51, 51] (by simp only [Dg.joinedL, List.flatMap_cons, List.flatMap_nil, pc4, pc6, pc6]; rfl) (by decide +kernel)
theorem vr : Tr.node (⟨#[100, 97, 98, 51, 101, 102, 97, 51, 53, 56, 54, 57, 54, 100, 102, 48]⟩ : ByteArray) (⟨#[56, 50, 101, 48, 99, 50, 54, 48, 52, 51, 52, 101, 51, 48, 102, 50]⟩ : ByteArray) = (⟨#[101, 99, 55, 102, 57, 49, 99, 49, 99, 101, 53, 48, 51, 98, 99, 57]⟩ : ByteArray) :=
  list_lit [Tr.wNode, (⟨#[100, 97, 98, 51, 101, 102, 97, 51, 53, 56, 54, 57, 54, 100, 102, 48]⟩ : ByteArray), (⟨#[56, 50, 101, 48, 99, 50, 54, 48, 52, 51, 52, 101, 51, 48, 102, 50]⟩ : ByteArray)] [52, 58, 110, 111, 100, 101, 49, 54, 58, 100, 97, 98, 51, 101, 102, 97, 51, 53, 56, 54, 57, 54, 100, 102, 48, 49, 54, 58, 56, 50, 101, 48, 99, 50, 54, 48, 52, 51, 52, 101, 51, 48, 102, 50] [101, 99, 55, 102, 57, 49, 99, 49, 99, 101, 53, 48, 51, 98, 99, 57] (by simp only [Dg.joinedL, List.flatMap_cons, List.flatMap_nil, pc4, pc7, pc8]; rfl) (by decide +kernel)
theorem vr1 : Tr.node (⟨#[100, 97, 98, 51, 101, 102, 97, 51, 53, 56, 54, 57, 54, 100, 102, 48]⟩ : ByteArray) (⟨#[101, 97, 51, 102, 55, 52, 48, 55, 52, 101, 51, 48, 101, 57, 54, 56]⟩ : ByteArray) = (⟨#[100, 99, 99, 50, 53, 97, 98, 99, 101, 49, 99, 98, 98, 51, 100, 52]⟩ : ByteArray) :=
  list_lit [Tr.wNode, (⟨#[100, 97, 98, 51, 101, 102, 97, 51, 53, 56, 54, 57, 54, 100, 102, 48]⟩ : ByteArray), (⟨#[101, 97, 51, 102, 55, 52, 48, 55, 52, 101, 51, 48, 101, 57, 54, 56]⟩ : ByteArray)] [52, 58, 110, 111, 100, 101, 49, 54, 58, 100, 97, 98, 51, 101, 102, 97, 51, 53, 56, 54, 57, 54, 100, 102, 48, 49, 54, 58, 101, 97, 51, 102, 55, 52, 48, 55, 52, 101, 51, 48, 101, 57, 54, 56] [100, 99, 99, 50, 53, 97, 98, 99, 101, 49, 99, 98, 98, 51, 100, 52] (by simp only [Dg.joinedL, List.flatMap_cons, List.flatMap_nil, pc4, pc7, pc6]; rfl) (by decide +kernel)
theorem vr2 : Tr.node (⟨#[53, 56, 56, 53, 56, 100, 102, 51, 49, 48, 54, 51, 101, 97, 51, 51]⟩ : ByteArray) (⟨#[56, 50, 101, 48, 99, 50, 54, 48, 52, 51, 52, 101, 51, 48, 102, 50]⟩ : ByteArray) = (⟨#[53, 57, 52, 99, 102, 49, 54, 55, 98, 54, 56, 55, 100, 101, 98, 52]⟩ : ByteArray) :=
  list_lit [Tr.wNode, (⟨#[53, 56, 56, 53, 56, 100, 102, 51, 49, 48, 54, 51, 101, 97, 51, 51]⟩ : ByteArray), (⟨#[56, 50, 101, 48, 99, 50, 54, 48, 52, 51, 52, 101, 51, 48, 102, 50]⟩ : ByteArray)] [52, 58, 110, 111, 100, 101, 49, 54, 58, 53, 56, 56, 53, 56, 100, 102, 51, 49, 48, 54, 51, 101, 97, 51, 51, 49, 54, 58, 56, 50, 101, 48, 99, 50, 54, 48, 52, 51, 52, 101, 51, 48, 102, 50] [53, 57, 52, 99, 102, 49, 54, 55, 98, 54, 56, 55, 100, 101, 98, 52] (by simp only [Dg.joinedL, List.flatMap_cons, List.flatMap_nil, pc4, pc9, pc8]; rfl) (by decide +kernel)

def wa : ByteArray := ⟨#[97]⟩
def wb : ByteArray := ⟨#[98]⟩
def wc : ByteArray := ⟨#[99]⟩
def da : ByteArray := Tr.leaf wa
def db : ByteArray := Tr.leaf wb
def dc : ByteArray := Tr.leaf wc
def dab : ByteArray := Tr.node da db
def dr : ByteArray := Tr.node dab dc
def L3 : List ByteArray := [wa, wb, wc]

theorem da_v : da = (⟨#[99, 57, 50, 49, 52, 102, 50, 52, 99, 48, 52, 56, 48, 53, 101, 52]⟩ : ByteArray) := va
theorem db_v : db = (⟨#[101, 97, 51, 102, 55, 52, 48, 55, 52, 101, 51, 48, 101, 57, 54, 56]⟩ : ByteArray) := vb
theorem dc_v : dc = (⟨#[56, 50, 101, 48, 99, 50, 54, 48, 52, 51, 52, 101, 51, 48, 102, 50]⟩ : ByteArray) := vc
theorem dab_v : dab = (⟨#[100, 97, 98, 51, 101, 102, 97, 51, 53, 56, 54, 57, 54, 100, 102, 48]⟩ : ByteArray) := by unfold dab; rw [da_v, db_v]; exact vab
theorem dr_v : dr = (⟨#[101, 99, 55, 102, 57, 49, 99, 49, 99, 101, 53, 48, 51, 98, 99, 57]⟩ : ByteArray) := by unfold dr; rw [dab_v, dc_v]; exact vr
theorem ne1 : Tr.node dab db ≠ dr := by rw [dr_v, dab_v, db_v, vr1]; decide
theorem ne2 : Tr.node (Tr.node db db) dc ≠ dr := by rw [dr_v, db_v, vbb, dc_v, vr2]; decide

theorem half3 : Tr.half 3 = 2 := by decide
theorem half2 : Tr.half 2 = 1 := by decide

theorem rt1 (x : ByteArray) : Tr.root [x] = Tr.leaf x := Tr.root_one [x] rfl
theorem rt2 (x y : ByteArray) : Tr.root [x, y] = Tr.node (Tr.leaf x) (Tr.leaf y) := by
  rw [Tr.root_node [x, y] (by simp)]
  have h : Tr.half [x, y].length = 1 := half2
  rw [h]
  show Tr.node (Tr.root [x]) (Tr.root [y]) = _
  rw [rt1, rt1]
theorem rt3 : Tr.root L3 = dr := by
  rw [Tr.root_node L3 (by decide)]
  have h : Tr.half L3.length = 2 := half3
  rw [h]
  show Tr.node (Tr.root [wa, wb]) (Tr.root [wc]) = _
  rw [rt1, rt2]; rfl

theorem pt2 : Tr.path L3 2 = [dab] := by
  have h : Tr.half L3.length = 2 := half3
  rw [Tr.path_right L3 2 (by decide) (by rw [h]; decide), h]
  show Tr.path [wc] 0 ++ [Tr.root [wa, wb]] = _
  rw [Tr.path_one _ _ (by decide), rt2]; rfl
theorem pt0 : Tr.path L3 0 = [db, dc] := by
  have h : Tr.half L3.length = 2 := half3
  rw [Tr.path_left L3 0 (by decide) (by rw [h]; decide), h]
  show Tr.path [wa, wb] 0 ++ [Tr.root [wc]] = _
  have h2 : Tr.half [wa, wb].length = 1 := half2
  rw [Tr.path_left [wa, wb] 0 (by decide) (by rw [h2]; decide), h2]
  show (Tr.path [wa] 0 ++ [Tr.root [wb]]) ++ [Tr.root [wc]] = _
  rw [Tr.path_one _ _ (by decide), rt1, rt1]; rfl
theorem lk2 : linkOf L3 2 = [dc] := by
  have h : Tr.half L3.length = 2 := half3
  unfold linkOf
  rw [if_neg (by decide), Tr.link_left L3 2 true (by decide) (by decide) (by rw [h]; decide), h]
  show Tr.link [wa, wb] 2 true ++ [Tr.root [wc]] = _
  rw [Tr.link_all [wa, wb] 2 true rfl, rt1]; rfl
theorem lk1 : Tr.link L3 1 true = [db, dc] := by
  have h : Tr.half L3.length = 2 := half3
  rw [Tr.link_left L3 1 true (by decide) (by decide) (by rw [h]; decide), h]
  show Tr.link [wa, wb] 1 true ++ [Tr.root [wc]] = _
  have h2 : Tr.half [wa, wb].length = 1 := half2
  rw [Tr.link_left [wa, wb] 1 true (by decide) (by decide) (by rw [h2]; decide), h2]
  show (Tr.link [wa] 1 true ++ [Tr.root [wb]]) ++ [Tr.root [wc]] = _
  rw [Tr.link_all [wa] 1 true rfl, rt1, rt1, rt1]; rfl
theorem lk1' : linkOf L3 1 = [db, dc] := by unfold linkOf; rw [if_neg (by decide)]; exact lk1

theorem pr (l : List ByteArray) (h : ∀ x ∈ l, Dg.isD x = true) : Tr.proper l = true := List.all_eq_true.2 h
theorem isD_da : Dg.isD da = true := Dg.isD_list _
theorem isD_db : Dg.isD db = true := Dg.isD_list _
theorem isD_dc : Dg.isD dc = true := Dg.isD_list _
theorem isD_dab : Dg.isD dab = true := Dg.isD_list _
theorem isD_dr : Dg.isD dr = true := Dg.isD_list _

theorem ck_c : Tr.check dr 3 2 wc [dab] = true := by
  have e := Tr.check_eq dr 3 2 wc [dab] (by decide) (by decide) (pr _ (by simp [isD_dab]))
  have h1 : [dab].length = Tr.len 3 2 := by
    have := Tr.path_length L3 2
    rw [pt2] at this; exact this
  have h2 : Tr.up 3 2 (Tr.leaf wc) [dab] = dr := by
    have := Tr.up_path L3 2 (by decide)
    rw [pt2, rt3] at this; exact this
  rw [decide_eq_true h1, decide_eq_true h2] at e
  exact e
theorem ck_b : Tr.check dr 3 2 wb [dab] = false := by
  have e := Tr.check_eq dr 3 2 wb [dab] (by decide) (by decide) (pr _ (by simp [isD_dab]))
  have h2 : Tr.up 3 2 (Tr.leaf wb) [dab] = Tr.node dab db := by
    rw [Tr.up_right 3 2 _ _ (by decide) (by rw [half3]; decide), half3, Tr.up_one _ _ _ _ (by decide)]; rfl
  rw [h2, decide_eq_false ne1, Bool.and_false] at e
  exact e
theorem ex_a : Tr.extends_ da 1 dr 3 [db, dc] = true := by
  have e := Tr.extends_eq da 1 dr 3 [db, dc] (by decide) (by decide) (by decide) (pr _ (by simp [isD_db, isD_dc])) (pr _ (by simp [isD_da, isD_dr]))
  have h1 : [db, dc].length = Tr.long 3 1 true := by
    have := Tr.link_length L3 1 true (by decide) (by decide)
    rw [lk1] at this; exact this
  have hr : Tr.root (L3.take 1) = da := rt1 wa
  have h2 := Tr.both_link L3 1 true da (by decide) (by decide) (by decide) (fun _ => hr.symm)
  rw [lk1, hr, rt3] at h2
  have h3 : Tr.both 3 1 true da [db, dc] = (da, dr) := h2
  rw [h3, decide_eq_true h1, decide_eq_true rfl, decide_eq_true rfl] at e
  exact e
theorem ex_b : Tr.extends_ db 1 dr 3 [db, dc] = false := by
  have e := Tr.extends_eq db 1 dr 3 [db, dc] (by decide) (by decide) (by decide) (pr _ (by simp [isD_db, isD_dc])) (pr _ (by simp [isD_db, isD_dr]))
  have h2 : (Tr.both 3 1 true db [db, dc]).2 = Tr.node (Tr.node db db) dc := by
    rw [Tr.both_left 3 1 true db _ (by decide) (by decide) (by rw [half3]; decide), half3]
    show Tr.node (Tr.both 2 1 true db [db]).2 dc = _
    rw [Tr.both_left 2 1 true db _ (by decide) (by decide) (by rw [half2]; decide), half2, Tr.both_all _ _ _ _ _ rfl]
    rfl
  rw [h2, decide_eq_false ne2, Bool.and_false, Bool.and_false] at e
  exact e

theorem small_L3 : Small L3 := .cons (by decide) (.cons (by decide) (.cons (by decide) .nil))

theorem head_is (k : Nat) (hk : 3000 ≤ k) : pandectlaw02_head.f k = some true := by
  obtain ⟨k, rfl⟩ : ∃ k', k = k' + 1 + 1 := ⟨k - 2, by omega⟩
  have ra : ∀ k, 1500 ≤ k → tree_Root.f k [(⟨#[97]⟩ : ByteArray)] = some da := fun k hk => by rw [root_is _ k (by simp) (.cons (by decide) .nil) (by simp; omega), rt1]; rfl
  have rb : ∀ k, 1500 ≤ k → tree_Root.f k [(⟨#[98]⟩ : ByteArray)] = some db := fun k hk => by rw [root_is _ k (by simp) (.cons (by decide) .nil) (by simp; omega), rt1]; rfl
  have rc : ∀ k, 1500 ≤ k → tree_Root.f k [(⟨#[99]⟩ : ByteArray)] = some dc := fun k hk => by rw [root_is _ k (by simp) (.cons (by decide) .nil) (by simp; omega), rt1]; rfl
  have r0 : ∀ k, 1500 ≤ k → tree_Root.f k [] = some Tr.empty := fun k hk => by rw [root_is _ k (by simp) .nil (by simp; omega), Tr.root_zero [] rfl]
  have r3 : ∀ k, 1500 ≤ k → tree_Root.f k L3 = some dr := fun k hk => by rw [root_is _ k (by decide) small_L3 (by show 1400 + 3 ≤ k; omega), rt3]
  have p2 : ∀ k, 1700 ≤ k → tree_Path.f k L3 2 = some ([dab], 0) := fun k hk => by have := path_is L3 2 (by decide) small_L3 (by decide) k hk; rw [pt2] at this; exact this
  have p0 : ∀ k, 1700 ≤ k → tree_Path.f k L3 0 = some ([db, dc], 0) := fun k hk => by have := path_is L3 0 (by decide) small_L3 (by decide) k hk; rw [pt0] at this; exact this
  have p3 : ∀ k, 1700 ≤ k → tree_Path.f k L3 3 = some ([], 1) := fun k hk => path_bad L3 3 (.inr (by decide)) k (by omega)
  have l2 : ∀ k, 1700 ≤ k → tree_Link.f k L3 2 = some ([dc], 0) := fun k hk => by have := link_is L3 2 (by decide) small_L3 (by decide) k hk; rw [lk2] at this; exact this
  have l1 : ∀ k, 1700 ≤ k → tree_Link.f k L3 1 = some ([db, dc], 0) := fun k hk => by have := link_is L3 1 (by decide) small_L3 (by decide) k hk; rw [lk1'] at this; exact this
  have szd : ∀ x, Dg.isD x = true → x.size ≤ 100 := fun x h => by rw [isD_size h]; omega
  have dn : digest_List.f [(⟨#[110, 111, 100, 101]⟩ : ByteArray), da, db] = some dab := by
    rw [dig_list3 _ (by simp) (.cons (by decide) (.cons (szd _ isD_da) (.cons (szd _ isD_db) .nil)))]; rfl
  have dn2 : digest_List.f [(⟨#[110, 111, 100, 101]⟩ : ByteArray), dab, dc] = some dr := by
    rw [dig_list3 _ (by simp) (.cons (by decide) (.cons (szd _ isD_dab) (.cons (szd _ isD_dc) .nil)))]; rfl
  have de : digest_List.f [(⟨#[101, 109, 112, 116, 121]⟩ : ByteArray)] = some Tr.empty := by
    rw [dig_list3 _ (by simp) (.cons (by decide) .nil)]; rfl
  have dl : digest_List.f [(⟨#[108, 101, 97, 102]⟩ : ByteArray), (⟨#[97]⟩ : ByteArray)] = some da := by
    rw [dig_list3 _ (by simp) (.cons (by decide) (.cons (by decide) .nil))]; rfl
  have hL : ([(⟨#[97]⟩ : ByteArray), (⟨#[98]⟩ : ByteArray), (⟨#[99]⟩ : ByteArray)] : List ByteArray) = L3 := rfl
  have sm : ∀ (a b : List ByteArray) k, a.length ≤ 1000 → 1100 ≤ k → a = b → pandectref01_Same.f k a b = some true := fun a b k h1 h2 h3 => by rw [same_is a b h1 k h2, decide_eq_true h3]
  unfold pandectlaw02_head.f
  rw [ra _ (by omega), Option.bind_some, rb _ (by omega), Option.bind_some, rc _ (by omega), Option.bind_some, hL, Option.bind_some, p2 _ (by omega), Option.bind_some, p0 _ (by omega), Option.bind_some, l2 _ (by omega), Option.bind_some,
    l1 _ (by omega), Option.bind_some, p3 _ (by omega), Option.bind_some, dn, Option.bind_some, r0 _ (by omega), Option.bind_some, de, Option.bind_some, if_pos rfl, dl, Option.bind_some, if_pos rfl, r3 _ (by omega), Option.bind_some, dn2, Option.bind_some]
  rw [pandectlaw02_head.j0, if_pos rfl, sm _ _ _ (by simp) (by omega) rfl, Option.bind_some, if_pos rfl, if_pos rfl, sm _ _ _ (by simp) (by omega) rfl, Option.bind_some, if_pos rfl, if_pos rfl, sm _ _ _ (by simp) (by omega) rfl, Option.bind_some, if_pos rfl, if_pos rfl, Option.bind_some, if_pos rfl]
  have c1 : tree_Check.f dr 3 2 (⟨#[99]⟩ : ByteArray) [dab] = some true := by rw [check_is _ _ _ _ _ (by simp) (by decide)]; exact congrArg some ck_c
  have c2 : tree_Check.f dr 3 2 (⟨#[98]⟩ : ByteArray) [dab] = some false := by rw [check_is _ _ _ _ _ (by simp) (by decide)]; exact congrArg some ck_b
  have e1 : tree_Extends.f da 1 dr 3 [db, dc] = some true := by rw [extends_is _ _ _ _ _ (by simp), ex_a]
  have e2 : tree_Extends.f db 1 dr 3 [db, dc] = some false := by rw [extends_is _ _ _ _ _ (by simp), ex_b]
  rw [pandectlaw02_head.j1, if_pos (beq_iff_eq.mpr rfl), if_pos (by decide), r3 _ (by omega), Option.bind_some, c1, Option.bind_some, if_pos rfl, Option.bind_some, c2, Option.bind_some, if_neg (by decide), Option.bind_some, e1, Option.bind_some, if_pos rfl, Option.bind_some, e2]
  rfl
end Go.Proofs.YteofiiggnegnkaaDoor.P
/- The six laws of chapter 02, as the print has them, answer true. -/
namespace Go.Proofs.YteofiiggnegnkaaDoor.P
open Go.RowKit Go.Proofs.YteofiiggnegnkaaDoor Go.Proofs.YteofiiggnegnkaaDoorW.PrintWords Go.Proofs.YteofiiggnegnkaaDoorW.PrintLast Go.Proofs.YteofiiggnegnkaaDoorW.PrintMore
set_option linter.unusedVariables false
set_option linter.unusedSimpArgs false

theorem some_bind {α β : Type} (a : α) (f : α → Option β) : (some a).bind f = f a := rfl

theorem linkOf_length (l : List ByteArray) (m : Nat) (h20 : l.length ≤ 20) (hm : m ≤ l.length) : (linkOf l m).length ≤ Tr.digs l.length + 1 ∧ Tr.digs l.length ≤ 5 := by
  have h3 := Tr.digs_le l.length h20
  unfold linkOf
  by_cases h : m = 0
  · rw [if_pos h]; exact ⟨by simp, h3.1⟩
  · rw [if_neg h, Tr.link_length l m true (by omega) hm]
    exact ⟨Tr.long_digs _ _ _ h20, h3.1⟩

/-! ### P2.1 -/

/-! ### P2.2 -/

theorem raw_mod (u n : Nat) (hu : u ≤ 255) (hn : 0 < n) : Int.tmod (wrap64 (u : Int)) (n : Int) = ((u % n : Nat) : Int) := by
  rw [IntWalk.wrap64_in _ (by omega)]
  exact tmod_nat u n

/-! ### P2.3 -/

/-! ### P2.4 -/

end Go.Proofs.YteofiiggnegnkaaDoor.P
/- The laws of chapter 02 about links, as the print has them, answer true. -/
namespace Go.Proofs.YteofiiggnegnkaaDoor.P
open Go.RowKit Go.Proofs.YteofiiggnegnkaaDoor Go.Proofs.YteofiiggnegnkaaDoorW.PrintWords Go.Proofs.YteofiiggnegnkaaDoorW.PrintLast Go.Proofs.YteofiiggnegnkaaDoorW.PrintMore
set_option linter.unusedVariables false
set_option linter.unusedSimpArgs false

/-! ### P2.5 -/

theorem proper2 (a b : ByteArray) (ha : Dg.isD a = true) (hb : Dg.isD b = true) : Tr.proper [a, b] = true := pr _ (fun x hx => by
  rcases List.mem_cons.1 hx with h | h
  · rw [h]; exact ha
  · rw [List.mem_singleton.1 h]; exact hb)

theorem grows_ext (l : List ByteArray) (m : Nat) (h20 : l.length ≤ 20) (hm : m ≤ l.length) : Tr.extends_ (Tr.root (l.take m)) m (Tr.root l) l.length (linkOf l m) = true := by
  have hp2 := proper2 (Tr.root (l.take m)) (Tr.root l) (Tr.isD_root _) (Tr.isD_root _)
  unfold linkOf
  by_cases h0 : m = 0
  · subst h0
    rw [if_pos rfl]
    rw [List.take_zero] at hp2 ⊢
    rw [Tr.root_zero [] rfl] at hp2 ⊢
    have e := Tr.extends_zero_eq Tr.empty (Tr.root l) l.length [] (by omega) rfl hp2
    refine Eq.trans e ?_
    by_cases hl : l.length = 0
    · rw [Tr.root_zero l hl]; simp
    · rw [decide_eq_true (show (l.length : Int) > 0 by omega)]; simp
  · rw [if_neg h0, Tr.extends_eq _ _ _ _ _ (by omega) hm (by omega) (Tr.link_proper l m true (by omega) hm) hp2, Tr.link_length l m true (by omega) hm, Tr.both_link l m true _ h20 (by omega) hm (fun _ => rfl)]
    simp

theorem linkOf_zero (l : List ByteArray) (m : Nat) (h20 : l.length ≤ 20) (hm : m ≤ l.length) : (linkOf l m).length = 0 ↔ (m = 0 ∨ m = l.length) := by
  unfold linkOf
  by_cases h0 : m = 0
  · rw [if_pos h0]; exact ⟨fun _ => .inl h0, fun _ => rfl⟩
  · rw [if_neg h0, Tr.link_length l m true (by omega) hm, Tr.long_zero l.length m (by omega) hm]
    exact ⟨fun h => .inr h, fun h => h.resolve_left h0⟩

theorem grows_end (l : List ByteArray) (m d k : Nat) (n : Int) (h20 : l.length ≤ 20) (hs : Small l) (hm : m ≤ l.length) (hd : d ≤ 10) (hk : 2000 ≤ k) (hn : ¬ n > 0) (hle : (linkOf l m).length ≤ d + 1) :
    pandectlaw02_TreeGrows.l0 (k + 1) l true (m : Int) (linkOf l m) 0 (d : Int) n = some true := by
  have h1 := linkOf_length l m h20 hm
  have w1 : wrap64 ((d : Int) + 1) = ((d + 1 : Nat) : Int) := by rw [IntWalk.wrap64_in _ (by omega)]; omega
  rw [pandectlaw02_TreeGrows.l0, if_neg hn, if_pos rfl, if_pos rfl, if_pos (by omega), if_pos (by omega)]
  simp only [Int.toNat_natCast]
  rw [root_is _ k (by rw [List.length_take]; omega) (hs.take _) (by rw [List.length_take]; omega), some_bind, root_is l k h20 hs (by omega), some_bind, extends_is _ _ _ _ _ (by omega), grows_ext l m h20 hm, some_bind, if_pos rfl, w1, if_pos (by omega)]
  have hz := linkOf_zero l m h20 hm
  by_cases h0 : m = 0
  · have h2 : (linkOf l m).length = 0 := hz.2 (.inl h0)
    rw [if_pos (by omega), h2]; rfl
  · rw [if_neg (by omega)]
    by_cases he : m = l.length
    · have h2 : (linkOf l m).length = 0 := hz.2 (.inr he)
      rw [h2, he]; simp
    · have h2 : (linkOf l m).length ≠ 0 := fun h => by rcases hz.1 h with h | h; exact h0 h; exact he h
      rw [beq_eq_false_iff_ne.mpr (show ((linkOf l m).length : Int) ≠ 0 by omega), beq_eq_false_iff_ne.mpr (show (m : Int) ≠ (l.length : Int) by omega)]
      rfl

theorem grows_l0 (l : List ByteArray) (m : Nat) (h20 : l.length ≤ 20) (hs : Small l) (hm : m ≤ l.length) : ∀ (f n d k : Nat), n < 2 ^ f → f ≤ 5 → d + f ≤ 10 → 2100 + f ≤ k → (linkOf l m).length ≤ d + Tr.digsF f n + 1 →
    pandectlaw02_TreeGrows.l0 k l true (m : Int) (linkOf l m) 0 (d : Int) (n : Int) = some true := by
  intro f
  induction f with
  | zero =>
    intro n d k hn hf hd hk hle
    obtain ⟨k, rfl⟩ : ∃ k', k = k' + 1 := ⟨k - 1, by omega⟩
    have : n = 0 := by simpa using hn
    subst this
    simp only [Tr.digsF] at hle
    exact grows_end l m d k _ h20 hs hm (by omega) (by omega) (by decide) (by omega)
  | succ f ih =>
    intro n d k hn hf hd hk hle
    obtain ⟨k, rfl⟩ : ∃ k', k = k' + 1 := ⟨k - 1, by omega⟩
    by_cases h0 : n = 0
    · subst h0
      simp only [Tr.digsF, if_pos] at hle
      clear hn ih
      exact grows_end l m d k _ h20 hs hm (by omega) (by omega) (by decide) (by omega)
    · have hn2 : n / 2 < 2 ^ f := by rw [Nat.pow_succ] at hn; omega
      have hn3 : n < 32 := Nat.lt_of_lt_of_le hn (Nat.le_trans (Nat.pow_le_pow_right (by decide) hf) (by decide))
      clear hn
      simp only [Tr.digsF, if_neg h0] at hle
      have w1 : wrap64 ((d : Int) + 1) = ((d + 1 : Nat) : Int) := by rw [IntWalk.wrap64_in _ (by omega)]; omega
      have t1 : Int.tdiv (n : Int) 2 = ((n / 2 : Nat) : Int) := tdiv_nat n 2
      have w2 : wrap64 (((n / 2 : Nat)) : Int) = ((n / 2 : Nat) : Int) := IntWalk.wrap64_in _ ⟨by omega, by omega⟩
      rw [pandectlaw02_TreeGrows.l0, if_pos (by omega), w1, t1, w2]
      exact ih (n / 2) (d + 1) k hn2 (Nat.le_of_succ_le hf) (by rw [Nat.add_right_comm]; exact hd) (Nat.le_of_succ_le_succ hk) (by rw [Nat.add_assoc d 1]; exact hle)

theorem law_grows (l : List ByteArray) (u : Nat) (hu : u ≤ 255) : pandectlaw02_TreeGrows.f 1200000 l (u : Int) = some true := by
  unfold pandectlaw02_TreeGrows.f
  obtain ⟨b1, e1, f1⟩ := few_is l 1200000 (by omega)
  rw [head_is _ (by omega), some_bind, e1, some_bind]
  by_cases h1 : b1 = true
  · obtain ⟨h20, hs⟩ := f1.1 h1
    have w : wrap64 ((l.length : Int) + 1) = ((l.length + 1 : Nat) : Int) := by rw [IntWalk.wrap64_in _ (by omega)]; omega
    have hm : u % (l.length + 1) < l.length + 1 := Nat.mod_lt _ (by omega)
    have h3 := linkOf_length l (u % (l.length + 1)) h20 (by omega)
    rw [if_pos h1, w, if_neg (by omega), raw_mod u (l.length + 1) hu (by omega), link_is l _ h20 hs (by omega) _ (by omega), some_bind]
    exact grows_l0 l _ h20 hs (by omega) 5 l.length 0 _ (by simp; omega) (by omega) (by omega) (by omega) (by rw [Nat.zero_add]; exact h3.1)
  · rw [if_neg h1]

/-! ### P2.6 -/

end Go.Proofs.YteofiiggnegnkaaDoor.P
