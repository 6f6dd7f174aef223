import Derived.Test.YteofiiggnegnkaaDoorKPx0
import Derived.Test.YteofiiggnegnkaaDoorKPx1
import Derived.Test.YteofiiggnegnkaaDoorKPx2
import Derived.Test.YteofiiggnegnkaaDoorKPx3
import Derived.Test.YteofiiggnegnkaaDoorKPx4
import Derived.Test.YteofiiggnegnkaaDoorKCPx5
import Derived.Test.YteofiiggnegnkaaDoorKD
import Derived.Test.YteofiiggnegnkaaDoorKTb
import Derived.Test.YteofiiggnegnkaaDoorKCPx8
import Derived.Test.YteofiiggnegnkaaDoorKCPx11
import Derived.Test.YteofiiggnegnkaaDoorKCPx12
import Derived.Test.YteofiiggnegnkaaDoorKCPx14
import Derived.Test.YteofiiggnegnkaaDoorKCPx15
import Derived.Test.YteofiiggnegnkaaDoorTie
import Derived.ProofKit
import Derived.OpenShut
import Derived.ShutString
import Derived.LaidMore
import Derived.LaidSub
import Derived.Lay
import Derived.SevenTiedAt
import Derived.Stop.Joined
import Derived.SliceStrings
import Derived.Lib.ItoaMem
set_option linter.unusedVariables false
set_option linter.unusedSimpArgs false
/- What every row of the seat needs: the listed variables, the table that strconv.Itoa reads, a slice of strings as an argument. -/
namespace Go.Proofs.YteofiiggnegnkaaDoor.P
open Go.ChangeShapes Go.WideShapes Go.ChangeAt Go.RowKit
open Go.Proofs.YteofiiggnegnkaaDoor Go.Proofs.YteofiiggnegnkaaDoorW.PrintWords Go.Proofs.YteofiiggnegnkaaDoorW.PrintLast Go.Proofs.YteofiiggnegnkaaDoorW.PrintMore
set_option linter.unusedVariables false

theorem own : ownKnob Tryd.prog.godebug = none := by kernel_rfl
theorem laidOut : laidOutB Tryd.prog = true := by kernel_rfl
def laid : List (String × DataW Unit) := [("math/bits.deBruijn32tab", Rows.laid_math_bits_deBruijn32tab), ("math/bits.deBruijn64tab", Rows.laid_math_bits_deBruijn64tab), ("internal/strconv.uint64pow10", Rows.laid_internal_strconv_uint64pow10), ("unicode/utf8.acceptRanges", Rows.laid_unicode_utf8_acceptRanges), ("unicode/utf8.first", Rows.laid_unicode_utf8_first)]

theorem tabs_of_laid {W : World} (h : laidMetH Tryd.prog laid W) : Tabs W := by
  have h2 := h.filter (fun x => x.1 == "internal/strconv.uint64pow10")
  have e : laid.filter (fun x => x.1 == "internal/strconv.uint64pow10") = [("internal/strconv.uint64pow10", Lib.tabData .u64 Lib.pow10Tab)] := by kernel_rfl
  rw [e, MakeChecks.laidMetH_plain _ _ _ (by kernel_rfl)] at h2
  exact Lib.tabIs_of_head tabs_global (t := 103) (e := 71) (n := 20) (by kernel_rfl) Tryd.underlying103 Tryd.underlying71 (by kernel_rfl) (by kernel_rfl) h2

/-- The witness: a start in which the listed variables read as the row says. -/
theorem laid_met (os : Os) (args : Array Value) : laidMetH Tryd.prog laid ((World.laidAll Tryd.prog os laid).forCall (fun _ _ => 0) ⟨#[], args, []⟩).memory := by
  rw [MakeChecks.laidMetH_plain _ _ _ (by kernel_rfl)]
  exact laidMet_laidAll _ (by kernel_rfl) (by kernel_rfl)
theorem laid_shaped (os : Os) (args : Array Value) : ((World.laidAll Tryd.prog os laid).forCall (fun _ _ => 0) ⟨#[], args, []⟩).Shaped Tryd.prog :=
  World.shaped_of_ZipB (by kernel_rfl) (by kernel_rfl)

/-- A slice of strings that came in reads as a list. -/
theorem strings_in {H : Type} {enc : TypeId × Value → H} {W : World} {spare : Nat → Bool} {held : Bool} {fuel : Nat} {a : Option Addr} {n c : Nat} {x : DataW H × List MemPlace} (hf : DataW.trod enc Tryd.prog W 0 spare held fuel 22 [.slice a n c] = some x) :
    ∃ l : List ByteArray, l.length = n ∧ n ≤ c ∧ Kd.C Kd.string W a n l := by
  rcases open_strings Tryd.underlying22 Tryd.underlying9 (by kernel_rfl) hf with ⟨hcs, hx⟩ | ⟨x, len', cap', ss, hcs, _, hl, hm, hz, hx, hcell, _⟩
  · simp only [List.cons.injEq, Value.slice.injEq, and_true] at hcs
    obtain ⟨rfl, rfl, rfl⟩ := hcs
    exact ⟨[], rfl, Nat.le_refl _, Kd.C_of_reads (d := ByteArray.empty) (h1 := fun _ => rfl) ⟨rfl, by decide, fun hn => by simp at hn⟩⟩
  · simp only [List.cons.injEq, Value.slice.injEq, and_true] at hcs
    obtain ⟨rfl, rfl, rfl⟩ := hcs
    have hz' : n ≤ ss.length := by rw [hz]; split <;> omega
    have hlen : (ss.take n).length = n := by rw [List.length_take]; omega
    have hm' : c ≤ 9223372036854775807 := hm
    refine ⟨ss.take n, hlen, hl, Kd.C_of_reads (d := ByteArray.empty) (h1 := fun _ => rfl) ⟨hlen, by omega, fun hn => ⟨x, rfl, fun j hj => ?_⟩⟩⟩
    rw [hcell j (by omega)]
    simp only [List.getD_eq_getElem?_getD, List.getElem?_take_of_lt hj]
end Go.Proofs.YteofiiggnegnkaaDoor.P
/- The plain law of the Merkle trees: roots, paths and links of lists, what a path and a link prove, and where two digests meet; no program and no memory. -/
namespace Go.Proofs.YteofiiggnegnkaaDoor.Dg
open Go

theorem hexd_mem : ∀ d : Nat, d < 16 → hexset.contains (hexd d) = true := by decide

theorem isD_sum (s : ByteArray) : isD (sum s) = true := by
  have h1 : (sum s).size = 16 := sum_size s
  have h2 : (sum s).data.toList = hex (state s.data.toList) := rfl
  unfold isD
  rw [h1, h2, Bool.and_eq_true]
  refine ⟨rfl, List.all_eq_true.2 fun x hx => ?_⟩
  unfold hex at hx
  obtain ⟨i, _, rfl⟩ := List.mem_map.1 hx
  exact hexd_mem _ (Nat.mod_lt _ (by decide))

theorem isD_list (l : List ByteArray) : isD (list l) = true := isD_sum _

/-- The number that a list of decimal digits reads as. -/
def val (l : List UInt8) : Nat := l.foldl (fun a d => a * 10 + (d.toNat - 48)) 0

theorem digit_toNat (d : Nat) (h : d < 10) : (UInt8.ofNat (48 + d)).toNat = 48 + d := by
  rw [UInt8.toNat_ofNat']
  omega

theorem val_dec (u : Nat) : val (Lib.decDigits u) = u := by
  induction u using Nat.strongRecOn with
  | _ u ih =>
    by_cases h : u < 10
    · rw [Lib.decDigits_one h]
      have := digit_toNat u h
      simp only [val, List.foldl_cons, List.foldl_nil]
      omega
    · rw [Lib.decDigits, dif_neg h]
      have := digit_toNat (u % 10) (Nat.mod_lt _ (by decide))
      have h2 := ih (u / 10) (by omega)
      simp only [val] at h2 ⊢
      rw [List.foldl_append, h2]
      simp only [List.foldl_cons, List.foldl_nil]
      omega

theorem dec_ne (u : Nat) : ∀ d ∈ Lib.decDigits u, d ≠ 58 := by
  induction u using Nat.strongRecOn with
  | _ u ih =>
    intro d hd
    have hk : ∀ i : Nat, i < 10 → UInt8.ofNat (48 + i) ≠ 58 := by decide
    by_cases h : u < 10
    · rw [Lib.decDigits_one h] at hd
      rw [List.mem_singleton.1 hd]
      exact hk u h
    · rw [Lib.decDigits, dif_neg h] at hd
      rcases List.mem_append.1 hd with h1 | h1
      · exact ih (u / 10) (by omega) d h1
      · rw [List.mem_singleton.1 h1]
        exact hk _ (Nat.mod_lt _ (by decide))

theorem split_colon (a b : List UInt8) (x y : List UInt8) (ha : ∀ d ∈ a, d ≠ 58) (hb : ∀ d ∈ b, d ≠ 58) (h : a ++ 58 :: x = b ++ 58 :: y) : a = b ∧ x = y := by
  induction a generalizing b with
  | nil =>
    cases b with
    | nil => simp at h; exact ⟨rfl, h⟩
    | cons c b =>
      simp at h
      exact absurd h.1.symm (hb c (by simp))
  | cons c a ih =>
    cases b with
    | nil =>
      simp at h
      exact absurd h.1 (ha c (by simp))
    | cons d b =>
      simp at h
      obtain ⟨h1, h2⟩ := h
      obtain ⟨h3, h4⟩ := ih b (fun d hd => ha d (by simp [hd])) (fun d hd => hb d (by simp [hd])) h2
      exact ⟨by rw [h1, h3], h4⟩

theorem ba_ext {a b : ByteArray} (h : a.data.toList = b.data.toList) : a = b := ByteArray.ext (Array.toList_inj.1 h)

/-- A text with its length ahead can be read off. -/
theorem piece_inj (a b : ByteArray) (x y : List UInt8) (h : piece a ++ x = piece b ++ y) : a = b ∧ x = y := by
  simp only [piece, Lib.itoa_nonneg, List.append_assoc, List.cons_append] at h
  obtain ⟨h1, h2⟩ := split_colon _ _ _ _ (dec_ne _) (dec_ne _) h
  have hs : a.size = b.size := by
    have := congrArg val h1
    rwa [val_dec, val_dec] at this
  have hl : a.data.toList.length = b.data.toList.length := hs
  obtain ⟨h3, h4⟩ := List.append_inj h2 hl
  exact ⟨ba_ext h3, h4⟩

theorem joinedL_inj (l m : List ByteArray) (hlen : l.length = m.length) (h : joinedL l = joinedL m) : l = m := by
  induction l generalizing m with
  | nil =>
    cases m with
    | nil => rfl
    | cons b m => simp at hlen
  | cons a l ih =>
    cases m with
    | nil => simp at hlen
    | cons b m =>
      simp only [joinedL, List.flatMap_cons] at h
      obtain ⟨h1, h2⟩ := piece_inj a b _ _ h
      rw [h1, ih m (by simpa using hlen) h2]

theorem joined_inj (l m : List ByteArray) (hlen : l.length = m.length) (h : joined l = joined m) : l = m := by
  apply joinedL_inj l m hlen
  have h2 : (joined l).data.toList = (joined m).data.toList := by rw [h]
  exact h2
end Go.Proofs.YteofiiggnegnkaaDoor.Dg

namespace Go.Proofs.YteofiiggnegnkaaDoor.Tr
open Go Go.Proofs.YteofiiggnegnkaaDoor

/-! ### Roots, paths, links -/

theorem take_lt (l : List ByteArray) (h : ¬ l.length ≤ 1) : (l.take (half l.length)).length < l.length := by
  have := half_lt l.length (by omega)
  rw [List.length_take]; omega
theorem drop_lt (l : List ByteArray) (h : ¬ l.length ≤ 1) : (l.drop (half l.length)).length < l.length := by
  have := half_pos l.length
  rw [List.length_drop]; omega

def root (l : List ByteArray) : ByteArray :=
  if l.length = 0 then empty
  else if h : l.length ≤ 1 then leaf (l.getD 0 ByteArray.empty)
  else
    have := take_lt l h
    have := drop_lt l h
    node (root (l.take (half l.length))) (root (l.drop (half l.length)))
termination_by l.length
decreasing_by all_goals assumption

theorem root_zero (l : List ByteArray) (h : l.length = 0) : root l = empty := by rw [root, if_pos h]
theorem root_one (l : List ByteArray) (h : l.length = 1) : root l = leaf (l.getD 0 ByteArray.empty) := by rw [root, if_neg (by omega), dif_pos (by omega)]
theorem root_node (l : List ByteArray) (h : 1 < l.length) : root l = node (root (l.take (half l.length))) (root (l.drop (half l.length))) := by
  rw [root, if_neg (by omega), dif_neg (by omega)]

theorem isD_root (l : List ByteArray) : Dg.isD (root l) = true := by
  rw [root]
  split
  · exact Dg.isD_list _
  · split
    · exact Dg.isD_list _
    · exact Dg.isD_list _

def path (l : List ByteArray) (i : Nat) : List ByteArray :=
  if h : l.length ≤ 1 then []
  else
    have := take_lt l h
    have := drop_lt l h
    if i < half l.length then path (l.take (half l.length)) i ++ [root (l.drop (half l.length))]
    else path (l.drop (half l.length)) (i - half l.length) ++ [root (l.take (half l.length))]
termination_by l.length
decreasing_by all_goals assumption

theorem path_one (l : List ByteArray) (i : Nat) (h : l.length ≤ 1) : path l i = [] := by rw [path, dif_pos h]
theorem path_left (l : List ByteArray) (i : Nat) (h : 1 < l.length) (hi : i < half l.length) : path l i = path (l.take (half l.length)) i ++ [root (l.drop (half l.length))] := by
  rw [path, dif_neg (by omega), if_pos hi]
theorem path_right (l : List ByteArray) (i : Nat) (h : 1 < l.length) (hi : ¬ i < half l.length) : path l i = path (l.drop (half l.length)) (i - half l.length) ++ [root (l.take (half l.length))] := by
  rw [path, dif_neg (by omega), if_neg hi]

def link (l : List ByteArray) (m : Nat) (whole : Bool) : List ByteArray :=
  if m = l.length then if whole then [] else [root l]
  else if h : l.length ≤ 1 then []
  else
    have := take_lt l h
    have := drop_lt l h
    if m ≤ half l.length then link (l.take (half l.length)) m whole ++ [root (l.drop (half l.length))]
    else link (l.drop (half l.length)) (m - half l.length) false ++ [root (l.take (half l.length))]
termination_by l.length
decreasing_by all_goals assumption

theorem link_all (l : List ByteArray) (m : Nat) (whole : Bool) (h : m = l.length) : link l m whole = if whole then [] else [root l] := by rw [link, if_pos h]
theorem link_left (l : List ByteArray) (m : Nat) (whole : Bool) (h : 1 < l.length) (hm : m ≠ l.length) (hi : m ≤ half l.length) : link l m whole = link (l.take (half l.length)) m whole ++ [root (l.drop (half l.length))] := by
  rw [link, if_neg hm, dif_neg (by omega), if_pos hi]
theorem link_right (l : List ByteArray) (m : Nat) (whole : Bool) (h : 1 < l.length) (hm : m ≠ l.length) (hi : ¬ m ≤ half l.length) : link l m whole = link (l.drop (half l.length)) (m - half l.length) false ++ [root (l.take (half l.length))] := by
  rw [link, if_neg hm, dif_neg (by omega), if_neg hi]

/-! ### Lengths and the reference's way up -/

theorem sub_lt_of (n : Nat) (h : ¬ n ≤ 1) : n - half n < n := by have := half_pos n; omega

def len (n i : Nat) : Nat :=
  if h : n ≤ 1 then 0
  else
    have := half_lt n (by omega)
    have := sub_lt_of n h
    if i < half n then 1 + len (half n) i else 1 + len (n - half n) (i - half n)
termination_by n

theorem len_one (n i : Nat) (h : n ≤ 1) : len n i = 0 := by rw [len, dif_pos h]
theorem len_left (n i : Nat) (h : 1 < n) (hi : i < half n) : len n i = 1 + len (half n) i := by rw [len, dif_neg (by omega), if_pos hi]
theorem len_right (n i : Nat) (h : 1 < n) (hi : ¬ i < half n) : len n i = 1 + len (n - half n) (i - half n) := by rw [len, dif_neg (by omega), if_neg hi]

def up (n i : Nat) (d : ByteArray) (p : List ByteArray) : ByteArray :=
  if h : n ≤ 1 then d
  else
    have := half_lt n (by omega)
    have := sub_lt_of n h
    if i < half n then node (up (half n) i d p.dropLast) (last p) else node (last p) (up (n - half n) (i - half n) d p.dropLast)
termination_by n

theorem up_one (n i : Nat) (d : ByteArray) (p : List ByteArray) (h : n ≤ 1) : up n i d p = d := by rw [up, dif_pos h]
theorem up_left (n i : Nat) (d : ByteArray) (p : List ByteArray) (h : 1 < n) (hi : i < half n) : up n i d p = node (up (half n) i d p.dropLast) (last p) := by rw [up, dif_neg (by omega), if_pos hi]
theorem up_right (n i : Nat) (d : ByteArray) (p : List ByteArray) (h : 1 < n) (hi : ¬ i < half n) : up n i d p = node (last p) (up (n - half n) (i - half n) d p.dropLast) := by rw [up, dif_neg (by omega), if_neg hi]

theorem last_snoc (l : List ByteArray) (x : ByteArray) : last (l ++ [x]) = x := by simp [last]

theorem proper_dropLast (l : List ByteArray) (h : proper l = true) : proper l.dropLast = true := by
  unfold proper at h ⊢
  rw [List.all_eq_true] at h ⊢
  exact fun x hx => h x ((List.dropLast_sublist l).subset hx)

theorem proper_last (l : List ByteArray) (h : proper l = true) (h0 : 0 < l.length) : ((last l).size == 0) = false := by
  have hl : l ≠ [] := by intro e; subst e; simp at h0
  have h1 : last l = l.getLast hl := by simp [last, List.getLast?_eq_some_getLast hl]
  unfold proper at h
  have h2 := List.all_eq_true.1 h _ (List.getLast_mem hl)
  rw [h1]
  unfold Dg.isD at h2
  rw [Bool.and_eq_true, beq_iff_eq] at h2
  rw [h2.1]; rfl

theorem last_empty (l : List ByteArray) (h : l.length = 0) : ((last l).size == 0) = true := by
  rw [List.eq_nil_of_length_eq_zero h]; rfl

theorem ckUp_true (f : Nat) : ∀ (n i : Nat) (x : ByteArray) (l : List ByteArray), (ckUp f n i x l true).2.2 = true := by
  induction f with
  | zero => intros; rfl
  | succ f ih =>
    intro n i x l
    simp only [ckUp, Bool.true_or]
    split
    · rfl
    · split
      · exact ih _ _ _ _
      · exact ih _ _ _ _

/-- The way up with a path that is long enough. -/
theorem ckUp_long (x : ByteArray) (f : Nat) : ∀ (n i : Nat) (l : List ByteArray) (s : Bool), n ≤ f → 1 ≤ n → i < n → proper l = true → len n i ≤ l.length →
    (ckUp f n i x l s).1 = up n i (leaf x) l ∧ (ckUp f n i x l s).2.1.length = l.length - len n i ∧ (ckUp f n i x l s).2.2 = s := by
  induction f with
  | zero => intro n i l s h1 h2; omega
  | succ f ih =>
    intro n i l s hf hn hi hp hl
    by_cases h1 : n ≤ 1
    · simp only [ckUp, if_pos h1]
      rw [up_one _ _ _ _ h1, len_one _ _ h1]
      simp
    · have h2 := half_lt n (by omega)
      have h3 := half_pos n
      by_cases hh : i < half n
      · rw [len_left n i (by omega) hh] at hl ⊢
        rw [up_left n i _ _ (by omega) hh]
        simp only [ckUp, if_neg h1, if_pos hh]
        rw [proper_last l hp (by omega), Bool.or_false]
        obtain ⟨e1, e2, e3⟩ := ih (half n) i l.dropLast s (by omega) h3 hh (proper_dropLast l hp) (by rw [List.length_dropLast]; omega)
        rw [e1, e2, e3, List.length_dropLast]
        exact ⟨rfl, by omega, rfl⟩
      · rw [len_right n i (by omega) hh] at hl ⊢
        rw [up_right n i _ _ (by omega) hh]
        simp only [ckUp, if_neg h1, if_neg hh]
        rw [proper_last l hp (by omega), Bool.or_false]
        obtain ⟨e1, e2, e3⟩ := ih (n - half n) (i - half n) l.dropLast s (by omega) (by omega) (by omega) (proper_dropLast l hp) (by rw [List.length_dropLast]; omega)
        rw [e1, e2, e3, List.length_dropLast]
        exact ⟨rfl, by omega, rfl⟩

/-- The way up with a path that is too short. -/
theorem ckUp_short (x : ByteArray) (f : Nat) : ∀ (n i : Nat) (l : List ByteArray) (s : Bool), n ≤ f → 1 ≤ n → i < n → l.length < len n i → (ckUp f n i x l s).2.2 = true := by
  induction f with
  | zero => intro n i l s h1 h2; omega
  | succ f ih =>
    intro n i l s hf hn hi hl
    by_cases h1 : n ≤ 1
    · rw [len_one _ _ h1] at hl; omega
    · have h2 := half_lt n (by omega)
      have h3 := half_pos n
      by_cases h0 : l.length = 0
      · simp only [ckUp, if_neg h1]
        rw [last_empty l h0, Bool.or_true]
        split
        · exact ckUp_true _ _ _ _ _
        · exact ckUp_true _ _ _ _ _
      · by_cases hh : i < half n
        · rw [len_left n i (by omega) hh] at hl
          simp only [ckUp, if_neg h1, if_pos hh]
          exact ih (half n) i l.dropLast _ (by omega) h3 hh (by rw [List.length_dropLast]; omega)
        · rw [len_right n i (by omega) hh] at hl
          simp only [ckUp, if_neg h1, if_neg hh]
          exact ih (n - half n) (i - half n) l.dropLast _ (by omega) (by omega) (by omega) (by rw [List.length_dropLast]; omega)

/-- Check as the reference reads it. -/
theorem check_eq (r : ByteArray) (n i : Nat) (x : ByteArray) (p : List ByteArray) (h1 : n ≤ 1000000) (h2 : i < n) (hp : proper p = true) :
    check r n i x p = (decide (p.length = len n i) && decide (up n i (leaf x) p = r)) := by
  unfold check
  rw [if_neg (by rw [hp]; simp; omega)]
  simp only [Int.toNat_natCast]
  rcases Nat.lt_or_ge p.length (len n i) with h | h
  · rw [ckUp_short x n n i p false (Nat.le_refl _) (by omega) h2 h, decide_eq_false (show ¬ p.length = len n i by omega)]
    simp
  · obtain ⟨e1, e2, e3⟩ := ckUp_long x n n i p false (Nat.le_refl _) (by omega) h2 hp h
    simp only [e1, e2, e3]
    by_cases hl : p.length = len n i
    · rw [decide_eq_true hl, hl]; simp
    · rw [decide_eq_false hl]
      have : ((p.length - len n i == 0) : Bool) = false := by rw [beq_eq_false_iff_ne]; omega
      rw [this]; simp

/-! ### Links -/

def long (n m : Nat) (whole : Bool) : Nat :=
  if m = n then if whole then 0 else 1
  else if h : n ≤ 1 then 0
  else
    have := half_lt n (by omega)
    have := sub_lt_of n h
    if m ≤ half n then 1 + long (half n) m whole else 1 + long (n - half n) (m - half n) false
termination_by n

theorem long_all (n m : Nat) (whole : Bool) (h : m = n) : long n m whole = if whole then 0 else 1 := by rw [long, if_pos h]
theorem long_left (n m : Nat) (whole : Bool) (h : 1 < n) (hm : m ≠ n) (hi : m ≤ half n) : long n m whole = 1 + long (half n) m whole := by rw [long, if_neg hm, dif_neg (by omega), if_pos hi]
theorem long_right (n m : Nat) (whole : Bool) (h : 1 < n) (hm : m ≠ n) (hi : ¬ m ≤ half n) : long n m whole = 1 + long (n - half n) (m - half n) false := by rw [long, if_neg hm, dif_neg (by omega), if_neg hi]

def both (n m : Nat) (whole : Bool) (old : ByteArray) (p : List ByteArray) : ByteArray × ByteArray :=
  if m = n then if whole then (old, old) else (last p, last p)
  else if h : n ≤ 1 then (old, old)
  else
    have := half_lt n (by omega)
    have := sub_lt_of n h
    if m ≤ half n then ((both (half n) m whole old p.dropLast).1, node (both (half n) m whole old p.dropLast).2 (last p))
    else (node (last p) (both (n - half n) (m - half n) false old p.dropLast).1, node (last p) (both (n - half n) (m - half n) false old p.dropLast).2)
termination_by n

theorem both_all (n m : Nat) (whole : Bool) (old : ByteArray) (p : List ByteArray) (h : m = n) : both n m whole old p = if whole then (old, old) else (last p, last p) := by rw [both, if_pos h]
theorem both_left (n m : Nat) (whole : Bool) (old : ByteArray) (p : List ByteArray) (h : 1 < n) (hm : m ≠ n) (hi : m ≤ half n) : both n m whole old p = ((both (half n) m whole old p.dropLast).1, node (both (half n) m whole old p.dropLast).2 (last p)) := by
  rw [both, if_neg hm, dif_neg (by omega), if_pos hi]
theorem both_right (n m : Nat) (whole : Bool) (old : ByteArray) (p : List ByteArray) (h : 1 < n) (hm : m ≠ n) (hi : ¬ m ≤ half n) : both n m whole old p = (node (last p) (both (n - half n) (m - half n) false old p.dropLast).1, node (last p) (both (n - half n) (m - half n) false old p.dropLast).2) := by
  rw [both, if_neg hm, dif_neg (by omega), if_neg hi]

theorem exBoth_true (f : Nat) : ∀ (n m : Nat) (whole : Bool) (old : ByteArray) (l : List ByteArray), (exBoth f n m whole old l true).2.2 = true := by
  induction f with
  | zero => intros; rfl
  | succ f ih =>
    intro n m whole old l
    simp only [exBoth, Bool.true_or]
    split
    · split <;> rfl
    · split
      · exact ih _ _ _ _ _
      · exact ih _ _ _ _ _

theorem exBoth_long (old : ByteArray) (f : Nat) : ∀ (n m : Nat) (whole : Bool) (l : List ByteArray) (s : Bool), n ≤ f → 1 ≤ m → m ≤ n → proper l = true → long n m whole ≤ l.length →
    (exBoth f n m whole old l s).1 = both n m whole old l ∧ (exBoth f n m whole old l s).2.1.length = l.length - long n m whole ∧ (exBoth f n m whole old l s).2.2 = s := by
  induction f with
  | zero => intro n m whole l s h1 h2; omega
  | succ f ih =>
    intro n m whole l s hf hm hn hp hl
    by_cases h1 : m = n
    · rw [long_all n m whole h1] at hl ⊢
      rw [both_all n m whole old l h1]
      simp only [exBoth, if_pos h1]
      cases whole with
      | true => exact ⟨rfl, rfl, rfl⟩
      | false =>
        simp only [Bool.false_eq_true, if_false] at hl ⊢
        rw [proper_last l hp (by omega)]
        simp
    · have h2 := half_lt n (by omega)
      have h3 := half_pos n
      by_cases hh : m ≤ half n
      · rw [long_left n m whole (by omega) h1 hh] at hl ⊢
        rw [both_left n m whole old l (by omega) h1 hh]
        simp only [exBoth, if_neg h1, if_pos hh]
        rw [proper_last l hp (by omega), Bool.or_false]
        obtain ⟨e1, e2, e3⟩ := ih (half n) m whole l.dropLast s (by omega) hm hh (proper_dropLast l hp) (by rw [List.length_dropLast]; omega)
        rw [e1, e2, e3, List.length_dropLast]
        exact ⟨rfl, by omega, rfl⟩
      · rw [long_right n m whole (by omega) h1 hh] at hl ⊢
        rw [both_right n m whole old l (by omega) h1 hh]
        simp only [exBoth, if_neg h1, if_neg hh]
        rw [proper_last l hp (by omega), Bool.or_false]
        obtain ⟨e1, e2, e3⟩ := ih (n - half n) (m - half n) false l.dropLast s (by omega) (by omega) (by omega) (proper_dropLast l hp) (by rw [List.length_dropLast]; omega)
        rw [e1, e2, e3, List.length_dropLast]
        exact ⟨rfl, by omega, rfl⟩

theorem exBoth_short (old : ByteArray) (f : Nat) : ∀ (n m : Nat) (whole : Bool) (l : List ByteArray) (s : Bool), n ≤ f → 1 ≤ m → m ≤ n → l.length < long n m whole → (exBoth f n m whole old l s).2.2 = true := by
  induction f with
  | zero => intro n m whole l s h1 h2; omega
  | succ f ih =>
    intro n m whole l s hf hm hn hl
    by_cases h1 : m = n
    · rw [long_all n m whole h1] at hl
      simp only [exBoth, if_pos h1]
      cases whole with
      | true => simp at hl
      | false =>
        simp only [Bool.false_eq_true, if_false] at hl ⊢
        rw [last_empty l (by omega)]
        simp
    · have h2 := half_lt n (by omega)
      have h3 := half_pos n
      by_cases h0 : l.length = 0
      · simp only [exBoth, if_neg h1]
        rw [last_empty l h0, Bool.or_true]
        split
        · exact exBoth_true _ _ _ _ _ _
        · exact exBoth_true _ _ _ _ _ _
      · by_cases hh : m ≤ half n
        · rw [long_left n m whole (by omega) h1 hh] at hl
          simp only [exBoth, if_neg h1, if_pos hh]
          exact ih (half n) m whole l.dropLast _ (by omega) hm hh (by rw [List.length_dropLast]; omega)
        · rw [long_right n m whole (by omega) h1 hh] at hl
          simp only [exBoth, if_neg h1, if_neg hh]
          exact ih (n - half n) (m - half n) false l.dropLast _ (by omega) (by omega) (by omega) (by rw [List.length_dropLast]; omega)

/-- Extends as the reference reads it, for m from 1 on. -/
theorem extends_eq (old : ByteArray) (m : Nat) (r : ByteArray) (n : Nat) (p : List ByteArray) (h1 : 1 ≤ m) (h2 : m ≤ n) (h3 : n ≤ 1000000) (hp : proper p = true) (hr : proper [old, r] = true) :
    extends_ old m r n p = (decide (p.length = long n m true) && (decide ((both n m true old p).1 = old) && decide ((both n m true old p).2 = r))) := by
  unfold extends_
  rw [if_neg (by rw [hp, hr]; simp; omega), if_neg (by omega)]
  simp only [Int.toNat_natCast]
  rcases Nat.lt_or_ge p.length (long n m true) with h | h
  · rw [exBoth_short old n n m true p false (Nat.le_refl _) h1 h2 h, decide_eq_false (show ¬ p.length = long n m true by omega)]
    simp
  · obtain ⟨e1, e2, e3⟩ := exBoth_long old n n m true p false (Nat.le_refl _) h1 h2 hp h
    simp only [e1, e2, e3]
    by_cases hl : p.length = long n m true
    · rw [decide_eq_true hl, hl]; simp
    · rw [decide_eq_false hl]
      have : ((p.length - long n m true == 0) : Bool) = false := by rw [beq_eq_false_iff_ne]; omega
      rw [this]; simp

theorem extends_false (old : ByteArray) (m : Int) (r : ByteArray) (n : Int) (p : List ByteArray) (h : m < 0 ∨ m > n ∨ n > 1000000 ∨ proper p = false ∨ proper [old, r] = false) : extends_ old m r n p = false := by
  unfold extends_; rw [if_pos h]
end Go.Proofs.YteofiiggnegnkaaDoor.Tr
/- The reference's digest, as the print has it, computes the plain digest. -/
namespace Go.Proofs.YteofiiggnegnkaaDoor.P
open Go.RowKit Go.Proofs.YteofiiggnegnkaaDoor Go.Proofs.YteofiiggnegnkaaDoorW.PrintWords Go.Proofs.YteofiiggnegnkaaDoorW.PrintLast Go.Proofs.YteofiiggnegnkaaDoorW.PrintMore
set_option linter.unusedVariables false
set_option linter.unusedSimpArgs false

theorem tmod_nat (a b : Nat) : Int.tmod (a : Int) (b : Int) = ((a % b : Nat) : Int) := by
  rw [Int.tmod_eq_emod_of_nonneg (by omega)]; omega
theorem tdiv_nat (a b : Nat) : Int.tdiv (a : Int) (b : Int) = ((a / b : Nat) : Int) := by
  rw [Int.tdiv_eq_ediv_of_nonneg (by omega)]; omega
theorem wrap_nat (a : Nat) (h : a < 18446744073709551616) : IntKind.u64.wrap (a : Int) = (a : Int) := by
  rw [IntKind.wrap_u64]; omega

theorem ref_mix (x : Nat) : pandectref01_mix.f (x : Int) = some ((Dg.mix x : Nat) : Int) := by
  unfold pandectref01_mix.f
  simp only [IntKind.wrap_u64]
  have h1 : ((x : Int) * 6364136223846793005) % 18446744073709551616 = ((x * 6364136223846793005 % 18446744073709551616 : Nat) : Int) := by omega
  rw [h1]
  generalize ha : x * 6364136223846793005 % 18446744073709551616 = a
  have ha1 : a < 18446744073709551616 := by omega
  have h2 : (a : Int) / 2147483648 = ((a / 2147483648 : Nat) : Int) := by omega
  rw [h2, Dg.xor_u64 a _ ha1 (by omega)]
  generalize hb : a ^^^ (a / 2147483648) = b
  have h3 : ((b : Int) * 3202034522624059733) % 18446744073709551616 = ((b * 3202034522624059733 % 18446744073709551616 : Nat) : Int) := by omega
  rw [h3]
  generalize hc : b * 3202034522624059733 % 18446744073709551616 = c
  have hc1 : c < 18446744073709551616 := by omega
  have h4 : (c : Int) / 1073741824 = ((c / 1073741824 : Nat) : Int) := by omega
  rw [h4, Dg.xor_u64 c _ hc1 (by omega)]
  congr 2
  subst hc; subst hb; subst ha
  rfl

theorem bt_at0 (s : ByteArray) (i : Nat) : bt s (i : Int) = ((Dg.at0 s.data.toList i : Nat) : Int) := by
  unfold bt Dg.at0
  simp only [Int.toNat_natCast]
  split
  · rename_i h
    have h' : i < s.data.toList.length := h
    rw [List.getD_eq_getElem?_getD, List.getElem?_eq_getElem h']
    rfl
  · rename_i h
    rw [List.getD_eq_getElem?_getD, List.getElem?_eq_none (by rw [data_length]; omega)]
    rfl

theorem at0_drop (l : List UInt8) (a j : Nat) : Dg.at0 (l.drop a) j = Dg.at0 l (a + j) := by
  unfold Dg.at0
  rw [List.getD_eq_getElem?_getD, List.getD_eq_getElem?_getD, List.getElem?_drop]

theorem ref_sum1 (s : ByteArray) (hs : s.size ≤ 1000000000000) (st q k : Nat) (hq : 8 * q ≤ s.size) : ∀ r j : Nat, j + r = 8 →
    pandectref01_Sum.l1 (k + r + 1) s (st : Int) ((8 * q : Nat) : Int) ((Dg.upto (s.data.toList.drop (8 * q)) j : Nat) : Int) ((8 * q + j : Nat) : Int) =
      (pandectref01_mix.f (Go.bits .xor .u64 (st : Int) ((Dg.upto (s.data.toList.drop (8 * q)) 8 : Nat) : Int))).bind fun t => pandectref01_Sum.l0 k s t ((8 * (q + 1) : Nat) : Int) := by
  intro r
  have hw : wrap64 (((8 * q : Nat) : Int) + 8) = ((8 * (q + 1) : Nat) : Int) := by rw [IntWalk.wrap64_in _ (by omega)]; omega
  induction r with
  | zero =>
    intro j hj
    have : j = 8 := by omega
    subst this
    rw [Nat.add_zero, pandectref01_Sum.l1, hw, if_neg (by omega)]
  | succ r ih =>
    intro j hj
    have hu := Dg.upto_lt (s.data.toList.drop (8 * q)) j
    have hp : 256 ^ j ≤ 256 ^ 7 := Nat.pow_le_pow_right (by decide) (by omega)
    have hb := Dg.at0_lt s.data.toList (8 * q + j)
    have e1 := ih (j + 1) (by omega)
    have hlast : wrap64 (((8 * q + j : Nat) : Int) + 1) = ((8 * q + (j + 1) : Nat) : Int) := by rw [IntWalk.wrap64_in _ (by omega)]; omega
    have hm : (256 : Nat) ^ 7 = 72057594037927936 := by decide
    have hU : Dg.upto (s.data.toList.drop (8 * q)) (j + 1) = Dg.upto (s.data.toList.drop (8 * q)) j * 256 + Dg.at0 s.data.toList (8 * q + j) := by
      rw [Dg.upto, at0_drop]
    rw [hU] at e1
    generalize hU2 : Dg.upto (s.data.toList.drop (8 * q)) j = U at e1 hu ⊢
    have hw1 : IntKind.u64.wrap ((U : Int) * 256) = ((U * 256 : Nat) : Int) := by rw [IntKind.wrap_u64]; omega
    rw [show k + (r + 1) + 1 = (k + r + 1) + 1 by omega, pandectref01_Sum.l1, hw, if_pos (by omega), hlast, hw1, bt_at0]
    by_cases hi : 8 * q + j < s.size
    · rw [if_pos (by omega), if_pos (by omega), wrap_nat _ (by omega)]
      have : ((U * 256 : Nat) : Int) + ((Dg.at0 s.data.toList (8 * q + j) : Nat) : Int) = ((U * 256 + Dg.at0 s.data.toList (8 * q + j) : Nat) : Int) := by omega
      rw [this, wrap_nat _ (by omega), e1]
    · rw [if_neg (by omega)]
      have h0 : Dg.at0 s.data.toList (8 * q + j) = 0 := by
        unfold Dg.at0
        rw [List.getD_eq_getElem?_getD, List.getElem?_eq_none (by rw [data_length]; omega)]
        rfl
      rw [h0, Nat.add_zero (U * 256)] at e1
      exact e1

theorem ref_sum0 (s : ByteArray) (hs : s.size ≤ 1000000000000) (k : Nat) : ∀ n q st : Nat, st < 18446744073709551616 → q + n = s.size / 8 →
    pandectref01_Sum.l0 (k + 10 * (n + 1) + 1) s (st : Int) ((8 * q : Nat) : Int) = pandectref01_Sum.l2 k ((Dg.fin n st (s.data.toList.drop (8 * q)) : Nat) : Int) (⟨#[]⟩ : ByteArray) 0 := by
  intro n
  induction n with
  | zero =>
    intro q st hst hq
    rw [show k + 10 * (0 + 1) + 1 = ((k + 1) + 8 + 1) + 1 by omega, pandectref01_Sum.l0, if_pos (by omega)]
    have e := ref_sum1 s hs st q (k + 1) (by omega) 8 0 rfl
    have hU := Dg.upto_lt (s.data.toList.drop (8 * q)) 8
    simp only [Dg.upto, Nat.add_zero] at e
    refine Eq.trans e ?_
    rw [show Dg.fin 0 st (s.data.toList.drop (8 * q)) = Dg.mix (st ^^^ Dg.blk 0 8 (s.data.toList.drop (8 * q))) from rfl, Dg.blk_eq]
    simp only [Dg.upto] at hU ⊢
    rw [Dg.xor_u64 st _ hst (by omega), ref_mix, Option.bind_some, pandectref01_Sum.l0, if_neg (by omega)]
  | succ n ih =>
    intro q st hst hq
    rw [show k + 10 * (n + 1 + 1) + 1 = ((k + 10 * (n + 1) + 1) + 8 + 1) + 1 by omega, pandectref01_Sum.l0, if_pos (by omega)]
    have e := ref_sum1 s hs st q (k + 10 * (n + 1) + 1) (by omega) 8 0 rfl
    have hU := Dg.upto_lt (s.data.toList.drop (8 * q)) 8
    simp only [Dg.upto, Nat.add_zero] at e
    refine Eq.trans e ?_
    rw [show Dg.fin (n + 1) st (s.data.toList.drop (8 * q)) = Dg.fin n (Dg.mix (st ^^^ Dg.blk 0 8 (s.data.toList.drop (8 * q)))) ((s.data.toList.drop (8 * q)).drop 8) from rfl, Dg.blk_eq, List.drop_drop]
    simp only [Dg.upto] at hU ⊢
    rw [Dg.xor_u64 st _ hst (by omega), ref_mix, Option.bind_some]
    exact ih (q + 1) _ (Dg.mix_lt _) (by omega)

theorem ref_hexdig : ∀ d : Nat, d < 16 → ((⟨#[48, 49, 50, 51, 52, 53, 54, 55, 56, 57, 97, 98, 99, 100, 101, 102]⟩ : ByteArray).extract d (d + 1)) = (⟨#[Dg.hexd d]⟩ : ByteArray) := by decide +kernel

theorem ref_sum2 (st : Nat) (hst : st < 18446744073709551616) (k : Nat) : ∀ (r i : Nat) (t : ByteArray), i + r = 16 → t.data.toList = (Dg.hex st).drop r →
    pandectref01_Sum.l2 (k + r + 1) ((st / 16 ^ i : Nat) : Int) t (i : Int) = some ⟨(Dg.hex st).toArray⟩ := by
  intro r
  induction r with
  | zero =>
    intro i t hi ht
    rw [pandectref01_Sum.l2, if_neg (by omega)]
    rw [List.drop_zero] at ht
    congr 1
    exact Dg.ba_ext ht
  | succ r ih =>
    intro i t hi ht
    have hsz : t.size = i := by
      have h1 : t.data.toList.length = i := by rw [ht, List.length_drop, Dg.hex_length]; omega
      exact h1
    have hle : st / 16 ^ i ≤ st := Nat.div_le_self _ _
    have hd : st / 16 ^ i % 16 < 16 := Nat.mod_lt _ (by decide)
    have h1 : Int.tmod ((st / 16 ^ i : Nat) : Int) 16 = ((st / 16 ^ i % 16 : Nat) : Int) := tmod_nat _ 16
    have h2 : Int.tdiv ((st / 16 ^ i : Nat) : Int) 16 = ((st / 16 ^ (i + 1) : Nat) : Int) := by
      rw [Nat.pow_succ, ← Nat.div_div_eq_div_mul]
      exact tdiv_nat _ 16
    have hle2 : st / 16 ^ (i + 1) ≤ st := Nat.div_le_self _ _
    have hlast : wrap64 ((i : Int) + 1) = ((i + 1 : Nat) : Int) := by rw [IntWalk.wrap64_in _ (by omega)]; omega
    have hx : Dg.hexd (st / 16 ^ i % 16) :: t.data.toList = (Dg.hex st).drop r := by
      have hlen := Dg.hex_length st
      rw [List.drop_eq_getElem_cons (by omega), ht]
      congr 1
      unfold Dg.hex
      rw [List.getElem_map, List.getElem_range, show 60 - 4 * r = 4 * i by omega, Nat.pow_mul]
    rw [show k + (r + 1) + 1 = (k + r + 1) + 1 by omega, pandectref01_Sum.l2, if_pos (by omega), h1, h2, hlast]
    generalize st / 16 ^ i % 16 = d at hd hx ⊢
    have hw : IntKind.u64.wrap ((d : Int) + 1) = ((d + 1 : Nat) : Int) := by rw [IntKind.wrap_u64]; omega
    rw [hw, wrap_nat _ (by omega), if_pos (by omega), if_pos (by omega), if_pos (by omega)]
    simp only [Int.toNat_natCast]
    rw [ref_hexdig d hd, if_pos (by rw [hsz]; show 1 + i ≤ _; omega)]
    refine ih (i + 1) _ (by omega) ?_
    rw [← hx]
    rfl

theorem ref_sum (s : ByteArray) (hs : s.size ≤ 1000000000000) (k : Nat) (hk : 2 * s.size + 100 ≤ k) : pandectref01_Sum.f k s = some (Dg.sum s) := by
  obtain ⟨k', rfl⟩ : ∃ k', k = (k' + 16 + 1) + 10 * (s.size / 8 + 1) + 1 := ⟨k - (17 + 10 * (s.size / 8 + 1) + 1), by omega⟩
  unfold pandectref01_Sum.f
  have hx : Go.bits .xor .u64 1442695040888963407 (IntKind.u64.wrap ((s.size : Int))) = ((1442695040888963407 ^^^ s.size : Nat) : Int) := by
    rw [wrap_nat _ (by omega)]
    exact Dg.xor_u64 1442695040888963407 s.size (by omega) (by omega)
  rw [hx]
  have h1 := ref_sum0 s hs (k' + 16 + 1) (s.size / 8) 0 (1442695040888963407 ^^^ s.size) (Dg.xor_lt _ _ (by omega) (by omega)) (by omega)
  refine Eq.trans h1 ?_
  have h2 := ref_sum2 (Dg.state s.data.toList) (Dg.state_lt _) k' 16 0 ⟨#[]⟩ (by omega) (by rw [List.drop_of_length_le (by rw [Dg.hex_length]; omega)])
  rw [Nat.pow_zero, Nat.div_one] at h2
  exact h2

theorem ref_decdig : ∀ d : Nat, d < 10 → ((⟨#[48, 49, 50, 51, 52, 53, 54, 55, 56, 57]⟩ : ByteArray).extract d (d + 1)) = (⟨#[UInt8.ofNat (48 + d)]⟩ : ByteArray) := by decide +kernel

theorem ref_digits0 (u : Nat) : ∀ k (s : ByteArray), u < k → s.size + u ≤ 1000000000000 → ∃ t : ByteArray, pandectref01_digits.l0 k (u : Int) s = some t ∧ t.data.toList = (if u = 0 then [] else Lib.decDigits u) ++ s.data.toList := by
  induction u using Nat.strongRecOn with
  | _ u ih =>
    intro k s hk hs
    obtain ⟨k, rfl⟩ : ∃ k', k = k' + 1 := ⟨k - 1, by omega⟩
    by_cases h0 : u = 0
    · subst h0
      refine ⟨s, ?_, rfl⟩
      rw [pandectref01_digits.l0, if_neg (by decide)]
    · have hd : u % 10 < 10 := Nat.mod_lt _ (by decide)
      have h1 : Int.tmod (u : Int) 10 = ((u % 10 : Nat) : Int) := tmod_nat _ 10
      have h2 : Int.tdiv (u : Int) 10 = ((u / 10 : Nat) : Int) := tdiv_nat _ 10
      have hw : IntKind.u64.wrap (((u % 10 : Nat) : Int) + 1) = ((u % 10 + 1 : Nat) : Int) := by rw [IntKind.wrap_u64]; omega
      have hsz : ((⟨#[UInt8.ofNat (48 + u % 10)]⟩ : ByteArray) ++ s).size = 1 + s.size := by rw [ByteArray.size_append]; rfl
      obtain ⟨t, e1, e2⟩ := ih (u / 10) (by omega) k ((⟨#[UInt8.ofNat (48 + u % 10)]⟩ : ByteArray) ++ s) (by omega) (by rw [hsz]; omega)
      refine ⟨t, ?_, ?_⟩
      · rw [pandectref01_digits.l0, if_pos (by omega), h1, h2, hw, wrap_nat _ (by omega), if_pos (by omega), if_pos (by omega), if_pos (by omega)]
        simp only [Int.toNat_natCast]
        rw [ref_decdig _ hd, if_pos (by show 1 + s.size ≤ _; omega)]
        exact e1
      · rw [e2, if_neg h0]
        have h3 : ((⟨#[UInt8.ofNat (48 + u % 10)]⟩ : ByteArray) ++ s).data.toList = UInt8.ofNat (48 + u % 10) :: s.data.toList := rfl
        rw [h3]
        by_cases h : u < 10
        · rw [if_pos (by omega), Lib.decDigits_one h, Nat.mod_eq_of_lt h]; rfl
        · rw [if_neg (by omega)]
          rw [show Lib.decDigits u = Lib.decDigits (u / 10) ++ [UInt8.ofNat (48 + u % 10)] by rw [Lib.decDigits, dif_neg h]]
          simp

theorem ref_decimal (u k : Nat) (hk : u < k) (hu : u ≤ 100000000000) : ∃ t : ByteArray, pandectref01_Decimal.f k (u : Int) = some t ∧ t.data.toList = Lib.itoa u := by
  have hd : u % 10 < 10 := Nat.mod_lt _ (by decide)
  have h1 : Int.tmod (u : Int) 10 = ((u % 10 : Nat) : Int) := tmod_nat _ 10
  have h2 : Int.tdiv (u : Int) 10 = ((u / 10 : Nat) : Int) := tdiv_nat _ 10
  have hw : IntKind.u64.wrap (((u % 10 : Nat) : Int) + 1) = ((u % 10 + 1 : Nat) : Int) := by rw [IntKind.wrap_u64]; omega
  obtain ⟨t, e1, e2⟩ := ref_digits0 (u / 10) k ⟨#[UInt8.ofNat (48 + u % 10)]⟩ (by omega) (by show 1 + _ ≤ _; omega)
  refine ⟨t, ?_, ?_⟩
  · unfold pandectref01_Decimal.f pandectref01_digits.f
    rw [if_neg (by omega), wrap_nat u (by omega), h1, h2, hw, wrap_nat _ (by omega), if_pos (by omega), if_pos (by omega), if_pos (by omega)]
    simp only [Int.toNat_natCast]
    rw [ref_decdig _ hd, e1]
    rfl
  · rw [e2, Lib.itoa_nonneg]
    by_cases h : u < 10
    · rw [if_pos (by omega), Lib.decDigits_one h, Nat.mod_eq_of_lt h]; rfl
    · rw [if_neg (by omega)]
      rw [show Lib.decDigits u = Lib.decDigits (u / 10) ++ [UInt8.ofNat (48 + u % 10)] by rw [Lib.decDigits, dif_neg h]]

theorem rd_nat (l : List ByteArray) (i : Nat) : rdOf ByteArray.empty l (i : Int) = l.getD i ByteArray.empty := rfl
theorem rd_lt (l : List ByteArray) (i : Nat) (h : i < l.length) : rdOf ByteArray.empty l (i : Int) = l[i] := by
  rw [rd_nat, List.getD_eq_getElem?_getD, List.getElem?_eq_getElem h]; rfl

theorem joinedL_size (l : List ByteArray) : ∀ x ∈ l, x.size + 2 ≤ (Dg.joinedL l).length := by
  intro x hx
  obtain ⟨a, b, rfl⟩ := List.append_of_mem hx
  rw [Dg.joinedL_append]
  simp only [Dg.joinedL, List.flatMap_cons, List.length_append, Dg.piece, List.length_cons]
  have h1 : x.data.toList.length = x.size := rfl
  have h2 : 1 ≤ (Lib.itoa x.size).length := by
    rw [Lib.itoa_nonneg, Lib.decDigits_length]; exact Lib.nDigits_pos _
  omega

theorem joinedL_len (l : List ByteArray) : 2 * l.length ≤ (Dg.joinedL l).length := by
  induction l with
  | nil => simp
  | cons x l ih =>
    simp only [Dg.joinedL, List.flatMap_cons, List.length_append, Dg.piece, List.length_cons] at ih ⊢
    have h2 : 1 ≤ (Lib.itoa x.size).length := by
      rw [Lib.itoa_nonneg, Lib.decDigits_length]; exact Lib.nDigits_pos _
    omega

theorem bytes_map (l : List UInt8) : strOfNums (l.map fun b => (b.toNat : Int)) = ⟨l.toArray⟩ := by
  unfold strOfNums
  rw [List.map_map]
  have : (fun n : Int => UInt8.ofNat n.toNat) ∘ (fun b : UInt8 => (b.toNat : Int)) = id := by
    funext b; simp
  rw [this, List.map_id]

theorem ref_joined0 (l : List ByteArray) (hl : (Dg.joinedL l).length ≤ 1000000000000) (k : Nat) : ∀ r i c : Nat, i + r = l.length → c + r * 2000000000000 ≤ 30000000000000 →
    pandectref01_Joined.l0 (k + r + 1) l (c : Int) (i : Int) = pandectref01_Joined.l1 k l [] 0 := by
  intro r
  induction r with
  | zero =>
    intro i c hi hc
    rw [pandectref01_Joined.l0, if_neg (by omega), if_pos (by omega), if_pos (by omega)]
  | succ r ih =>
    intro i c hi hc
    have h5 := joinedL_len l
    have h1 := joinedL_size l _ (List.getElem_mem (show i < l.length by omega))
    rw [show k + (r + 1) + 1 = (k + r + 1) + 1 by omega, pandectref01_Joined.l0, if_pos (by omega), if_pos (by omega), rd_lt l i (by omega)]
    have h2 : wrap64 ((l[i].size : Int) + 21) = ((l[i].size + 21 : Nat) : Int) := by rw [IntWalk.wrap64_in _ (by omega)]; omega
    have h3 : wrap64 ((c : Int) + ((l[i].size + 21 : Nat) : Int)) = ((c + (l[i].size + 21) : Nat) : Int) := by rw [IntWalk.wrap64_in _ (by omega)]; omega
    have h4 : wrap64 ((i : Int) + 1) = ((i + 1 : Nat) : Int) := by rw [IntWalk.wrap64_in _ (by omega)]; omega
    rw [h2, h3, h4]
    exact ih (i + 1) _ (by omega) (by omega)

theorem ref_joined1 (l : List ByteArray) (hl : (Dg.joinedL l).length ≤ 1000000000) : ∀ r i k : Nat, i + r = l.length → (Dg.joinedL l).length + r + 1 ≤ k →
    pandectref01_Joined.l1 k l ((Dg.joinedL (l.take i)).map fun b => (b.toNat : Int)) (i : Int) = some (Dg.joined l) := by
  intro r
  induction r with
  | zero =>
    intro i k hi hk
    obtain ⟨k, rfl⟩ : ∃ k', k = k' + 1 := ⟨k - 1, by omega⟩
    rw [pandectref01_Joined.l1, if_neg (by omega), bytes_map, show i = l.length by omega, List.take_length]
    rfl
  | succ r ih =>
    intro i k hi hk
    obtain ⟨k, rfl⟩ : ∃ k', k = k' + 1 := ⟨k - 1, by omega⟩
    have hlt : i < l.length := by omega
    have h1 := joinedL_size l _ (List.getElem_mem hlt)
    have h2 := joinedL_len l
    have hs := Dg.joinedL_take_succ l i hlt
    have hle := Dg.joinedL_take_le l (i + 1)
    obtain ⟨t, e1, e2⟩ := ref_decimal l[i].size k (by omega) (by omega)
    have e := ih (i + 1) k (by omega) (by omega)
    have h4 : wrap64 ((i : Int) + 1) = ((i + 1 : Nat) : Int) := by rw [IntWalk.wrap64_in _ (by omega)]; omega
    have hts : t.size = (Lib.itoa l[i].size).length := by rw [← e2]; rfl
    have hps : (Dg.piece l[i]).length = (Lib.itoa l[i].size).length + 1 + l[i].size := by
      simp only [Dg.piece, List.length_append, List.length_cons]
      have : l[i].data.toList.length = l[i].size := rfl
      omega
    rw [hs] at hle e
    rw [List.length_append] at hle
    rw [pandectref01_Joined.l1, if_pos (by omega), if_pos (by omega), rd_lt l i hlt, e1, Option.bind_some, if_pos (by rw [List.length_map]; omega), Option.bind_some]
    rw [if_pos (by rw [List.length_append, List.length_map, bytesOf_length]; omega), Option.bind_some, if_pos (by rw [List.length_append, List.length_append, List.length_map, bytesOf_length, List.length_singleton]; omega), h4]
    rw [← e]
    congr 1
    simp only [Dg.piece, List.map_append, List.map_cons, bytesOf, e2, List.append_assoc, List.singleton_append]
    rfl

theorem ref_joined (l : List ByteArray) (h3 : l.length ≤ 3) (hl : (Dg.joinedL l).length ≤ 1000000000) (k : Nat) (hk : 3 * (Dg.joinedL l).length + 200 ≤ k) : pandectref01_Joined.f k l = some (Dg.joined l) := by
  have h2 := joinedL_len l
  obtain ⟨k', rfl⟩ : ∃ k', k = k' + l.length + 1 := ⟨k - (l.length + 1), by omega⟩
  unfold pandectref01_Joined.f
  refine Eq.trans (ref_joined0 l (by omega) k' l.length 0 0 (by omega) (by omega)) ?_
  exact ref_joined1 l hl l.length 0 k' (by omega) (by omega)

theorem ref_list (l : List ByteArray) (h3 : l.length ≤ 3) (hl : (Dg.joinedL l).length ≤ 1000000000) (k : Nat) (hk : 3 * (Dg.joinedL l).length + 200 ≤ k) : pandectref01_List.f k l = some (Dg.list l) := by
  have hs : (Dg.joined l).size = (Dg.joinedL l).length := rfl
  unfold pandectref01_List.f
  rw [ref_joined l h3 hl k hk, Option.bind_some, ref_sum _ (by omega) k (by omega)]
  rfl
end Go.Proofs.YteofiiggnegnkaaDoor.P
/- The plain law of the Merkle trees, second part: what a path proves, what equal roots show, what a link proves. -/
namespace Go.Proofs.YteofiiggnegnkaaDoor.Tr
open Go Go.Proofs.YteofiiggnegnkaaDoor

theorem list_ind {P : List ByteArray → Prop} (h : ∀ l : List ByteArray, (1 < l.length → P (l.take (half l.length)) ∧ P (l.drop (half l.length))) → P l) (l : List ByteArray) : P l := by
  generalize hn : l.length = n
  induction n using Nat.strongRecOn generalizing l with
  | _ n ih =>
    refine h l fun h1 => ⟨?_, ?_⟩
    · exact ih _ (by have := take_lt l (by omega); omega) _ rfl
    · exact ih _ (by have := drop_lt l (by omega); omega) _ rfl

theorem take_len (l : List ByteArray) (h : 1 < l.length) : (l.take (half l.length)).length = half l.length := by
  have := half_lt l.length h
  rw [List.length_take]; omega
theorem drop_len (l : List ByteArray) : (l.drop (half l.length)).length = l.length - half l.length := List.length_drop

theorem getD_take (l : List ByteArray) (k i : Nat) (h : i < k) : (l.take k).getD i ByteArray.empty = l.getD i ByteArray.empty := by
  rw [List.getD_eq_getElem?_getD, List.getD_eq_getElem?_getD, List.getElem?_take_of_lt h]
theorem getD_drop (l : List ByteArray) (k i : Nat) (h : k ≤ i) : (l.drop k).getD (i - k) ByteArray.empty = l.getD i ByteArray.empty := by
  rw [List.getD_eq_getElem?_getD, List.getD_eq_getElem?_getD, List.getElem?_drop]
  congr 2; omega

/-! ### A path proves its element -/

theorem path_length (l : List ByteArray) : ∀ i, (path l i).length = len l.length i := by
  induction l using list_ind with
  | h l ih =>
    intro i
    by_cases h1 : l.length ≤ 1
    · rw [path_one l i h1, len_one _ _ h1]; rfl
    · obtain ⟨ia, ib⟩ := ih (by omega)
      by_cases hi : i < half l.length
      · rw [path_left l i (by omega) hi, len_left _ _ (by omega) hi, List.length_append, ia, take_len l (by omega)]
        simp; omega
      · rw [path_right l i (by omega) hi, len_right _ _ (by omega) hi, List.length_append, ib, drop_len]
        simp; omega

theorem up_path (l : List ByteArray) : ∀ i, i < l.length → up l.length i (leaf (l.getD i ByteArray.empty)) (path l i) = root l := by
  induction l using list_ind with
  | h l ih =>
    intro i hl
    by_cases h1 : l.length ≤ 1
    · have : i = 0 := by omega
      subst this
      rw [up_one _ _ _ _ h1, root_one l (by omega)]
    · obtain ⟨ia, ib⟩ := ih (by omega)
      by_cases hi : i < half l.length
      · have e := ia i (by rw [take_len l (by omega)]; exact hi)
        rw [take_len l (by omega), getD_take _ _ _ hi] at e
        rw [path_left l i (by omega) hi, up_left _ _ _ _ (by omega) hi, List.dropLast_concat, last_snoc, root_node l (by omega), e]
      · have e := ib (i - half l.length) (by rw [drop_len]; omega)
        rw [drop_len, getD_drop _ _ _ (by omega)] at e
        rw [path_right l i (by omega) hi, up_right _ _ _ _ (by omega) hi, List.dropLast_concat, last_snoc, root_node l (by omega), e]

theorem half_same : ∀ n, n ≤ 20 → ∀ m, m ≤ n → half n < m → 1 < m → half m = half n := by decide +kernel

/-! ### What is digested -/

def texts (l : List ByteArray) : List ByteArray :=
  if l.length = 0 then [Dg.joined [wEmpty]]
  else if h : l.length ≤ 1 then [Dg.joined [wLeaf, l.getD 0 ByteArray.empty]]
  else
    have := take_lt l h
    have := drop_lt l h
    texts (l.take (half l.length)) ++ texts (l.drop (half l.length)) ++ [Dg.joined [wNode, root (l.take (half l.length)), root (l.drop (half l.length))]]
termination_by l.length
decreasing_by all_goals assumption

theorem texts_zero (l : List ByteArray) (h : l.length = 0) : texts l = [Dg.joined [wEmpty]] := by rw [texts, if_pos h]
theorem texts_one (l : List ByteArray) (h : l.length = 1) : texts l = [Dg.joined [wLeaf, l.getD 0 ByteArray.empty]] := by rw [texts, if_neg (by omega), dif_pos (by omega)]
theorem texts_node (l : List ByteArray) (h : 1 < l.length) : texts l = texts (l.take (half l.length)) ++ texts (l.drop (half l.length)) ++ [Dg.joined [wNode, root (l.take (half l.length)), root (l.drop (half l.length))]] := by
  rw [texts, if_neg (by omega), dif_neg (by omega)]

def pathTexts (n i : Nat) (s : ByteArray) (p : List ByteArray) : List ByteArray :=
  if h : n ≤ 1 then [Dg.joined [wLeaf, s]]
  else
    have := half_lt n (by omega)
    have := sub_lt_of n h
    if i < half n then pathTexts (half n) i s p.dropLast ++ [Dg.joined [wNode, up (half n) i (leaf s) p.dropLast, last p]]
    else pathTexts (n - half n) (i - half n) s p.dropLast ++ [Dg.joined [wNode, last p, up (n - half n) (i - half n) (leaf s) p.dropLast]]
termination_by n

theorem pathTexts_one (n i : Nat) (s : ByteArray) (p : List ByteArray) (h : n ≤ 1) : pathTexts n i s p = [Dg.joined [wLeaf, s]] := by rw [pathTexts, dif_pos h]
theorem pathTexts_left (n i : Nat) (s : ByteArray) (p : List ByteArray) (h : 1 < n) (hi : i < half n) : pathTexts n i s p = pathTexts (half n) i s p.dropLast ++ [Dg.joined [wNode, up (half n) i (leaf s) p.dropLast, last p]] := by
  rw [pathTexts, dif_neg (by omega), if_pos hi]
theorem pathTexts_right (n i : Nat) (s : ByteArray) (p : List ByteArray) (h : 1 < n) (hi : ¬ i < half n) : pathTexts n i s p = pathTexts (n - half n) (i - half n) s p.dropLast ++ [Dg.joined [wNode, last p, up (n - half n) (i - half n) (leaf s) p.dropLast]] := by
  rw [pathTexts, dif_neg (by omega), if_neg hi]

def linkTexts (n m : Nat) (whole : Bool) (old : ByteArray) (p : List ByteArray) : List ByteArray :=
  if m = n then []
  else if h : n ≤ 1 then []
  else
    have := half_lt n (by omega)
    have := sub_lt_of n h
    if m ≤ half n then linkTexts (half n) m whole old p.dropLast ++ [Dg.joined [wNode, (both (half n) m whole old p.dropLast).2, last p]]
    else linkTexts (n - half n) (m - half n) false old p.dropLast ++ [Dg.joined [wNode, last p, (both (n - half n) (m - half n) false old p.dropLast).1]] ++ [Dg.joined [wNode, last p, (both (n - half n) (m - half n) false old p.dropLast).2]]
termination_by n

theorem linkTexts_all (n m : Nat) (whole : Bool) (old : ByteArray) (p : List ByteArray) (h : m = n) : linkTexts n m whole old p = [] := by rw [linkTexts, if_pos h]
theorem linkTexts_left (n m : Nat) (whole : Bool) (old : ByteArray) (p : List ByteArray) (h : 1 < n) (hm : m ≠ n) (hi : m ≤ half n) : linkTexts n m whole old p = linkTexts (half n) m whole old p.dropLast ++ [Dg.joined [wNode, (both (half n) m whole old p.dropLast).2, last p]] := by
  rw [linkTexts, if_neg hm, dif_neg (by omega), if_pos hi]
theorem linkTexts_right (n m : Nat) (whole : Bool) (old : ByteArray) (p : List ByteArray) (h : 1 < n) (hm : m ≠ n) (hi : ¬ m ≤ half n) : linkTexts n m whole old p = linkTexts (n - half n) (m - half n) false old p.dropLast ++ [Dg.joined [wNode, last p, (both (n - half n) (m - half n) false old p.dropLast).1]] ++ [Dg.joined [wNode, last p, (both (n - half n) (m - half n) false old p.dropLast).2]] := by
  rw [linkTexts, if_neg hm, dif_neg (by omega), if_neg hi]

/-- Two different strings with one digest, one of each list. -/
def Coll (a b : List ByteArray) : Prop := ∃ x ∈ a, ∃ y ∈ b, x ≠ y ∧ Dg.sum x = Dg.sum y

theorem Coll.mono {a b c d : List ByteArray} (h : Coll a b) (h1 : ∀ x ∈ a, x ∈ c) (h2 : ∀ x ∈ b, x ∈ d) : Coll c d := by
  obtain ⟨x, hx, y, hy, h⟩ := h
  exact ⟨x, h1 x hx, y, h2 y hy, h⟩

/-- Two nodes with one digest: the same two strings, or a collision. -/
theorem node_coll (a b c d : ByteArray) (h : node a b = node c d) : (a = c ∧ b = d) ∨ (Dg.joined [wNode, a, b] ≠ Dg.joined [wNode, c, d] ∧ Dg.sum (Dg.joined [wNode, a, b]) = Dg.sum (Dg.joined [wNode, c, d])) := by
  by_cases he : Dg.joined [wNode, a, b] = Dg.joined [wNode, c, d]
  · have := Dg.joined_inj _ _ (by rfl) he
    simp only [List.cons.injEq, and_true, true_and] at this
    exact .inl this
  · exact .inr ⟨he, h⟩

theorem leaf_coll (a c : ByteArray) (hne : a ≠ c) (h : leaf a = leaf c) : Dg.joined [wLeaf, a] ≠ Dg.joined [wLeaf, c] ∧ Dg.sum (Dg.joined [wLeaf, a]) = Dg.sum (Dg.joined [wLeaf, c]) := by
  refine ⟨fun he => hne ?_, h⟩
  have := Dg.joined_inj _ _ (by rfl) he
  simp only [List.cons.injEq, and_true, true_and] at this
  exact this

/-! ### A path that proves another element shows a collision -/

theorem binds (l : List ByteArray) : ∀ i s p, i < l.length → s ≠ l.getD i ByteArray.empty → up l.length i (leaf s) p = root l → Coll (texts l) (pathTexts l.length i s p) := by
  induction l using list_ind with
  | h l ih =>
    intro i s p hl hs hu
    by_cases h1 : l.length ≤ 1
    · have : i = 0 := by omega
      subst this
      rw [up_one _ _ _ _ h1, root_one l (by omega)] at hu
      rw [texts_one l (by omega), pathTexts_one _ _ _ _ h1]
      obtain ⟨c1, c2⟩ := leaf_coll _ _ hs hu
      exact ⟨_, by simp, _, by simp, fun e => c1 e.symm, c2.symm⟩
    · obtain ⟨ia, ib⟩ := ih (by omega)
      rw [texts_node l (by omega)]
      by_cases hi : i < half l.length
      · rw [pathTexts_left _ _ _ _ (by omega) hi]
        rw [up_left _ _ _ _ (by omega) hi, root_node l (by omega)] at hu
        rcases node_coll _ _ _ _ hu with ⟨e1, e2⟩ | ⟨c1, c2⟩
        · have := ia i s p.dropLast (by rw [take_len l (by omega)]; exact hi) (by rw [getD_take _ _ _ hi]; exact hs) (by rw [take_len l (by omega)]; exact e1)
          rw [take_len l (by omega)] at this
          exact this.mono (fun x hx => by simp [hx]) (fun x hx => by simp [hx])
        · exact ⟨_, List.mem_append_right _ (List.mem_singleton.2 rfl), _, List.mem_append_right _ (List.mem_singleton.2 rfl), fun e => c1 e.symm, c2.symm⟩
      · rw [pathTexts_right _ _ _ _ (by omega) hi]
        rw [up_right _ _ _ _ (by omega) hi, root_node l (by omega)] at hu
        rcases node_coll _ _ _ _ hu with ⟨e1, e2⟩ | ⟨c1, c2⟩
        · have := ib (i - half l.length) s p.dropLast (by rw [drop_len]; omega) (by rw [getD_drop _ _ _ (by omega)]; exact hs) (by rw [drop_len]; exact e2)
          rw [drop_len] at this
          exact this.mono (fun x hx => by simp [hx]) (fun x hx => by simp [hx])
        · exact ⟨_, List.mem_append_right _ (List.mem_singleton.2 rfl), _, List.mem_append_right _ (List.mem_singleton.2 rfl), fun e => c1 e.symm, c2.symm⟩

/-! ### Equal roots of different lists show a collision -/

theorem roots (a : List ByteArray) : ∀ b, a.length = b.length → a ≠ b → root a = root b → Coll (texts a) (texts b) := by
  induction a using list_ind with
  | h a ih =>
    intro b hlen hne hr
    by_cases h0 : a.length = 0
    · exact absurd ((List.eq_nil_of_length_eq_zero h0).trans (List.eq_nil_of_length_eq_zero (hlen ▸ h0)).symm) hne
    · by_cases h1 : a.length ≤ 1
      · rw [root_one a (by omega), root_one b (by omega)] at hr
        rw [texts_one a (by omega), texts_one b (by omega)]
        obtain ⟨x, hx⟩ := List.length_eq_one_iff.1 (show a.length = 1 by omega)
        obtain ⟨y, hy⟩ := List.length_eq_one_iff.1 (show b.length = 1 by omega)
        subst hx; subst hy
        obtain ⟨c1, c2⟩ := leaf_coll x y (fun e => hne (by rw [e])) hr
        exact ⟨_, List.mem_singleton.2 rfl, _, List.mem_singleton.2 rfl, c1, c2⟩
      · obtain ⟨ia, ib⟩ := ih (by omega)
        rw [root_node a (by omega), root_node b (by omega)] at hr
        rw [texts_node a (by omega), texts_node b (by omega)]
        rcases node_coll _ _ _ _ hr with ⟨e1, e2⟩ | ⟨c1, c2⟩
        · by_cases hh : a.take (half a.length) = b.take (half b.length)
          · have hd : a.drop (half a.length) ≠ b.drop (half b.length) := fun hd => hne (by rw [← List.take_append_drop (half a.length) a, ← List.take_append_drop (half b.length) b, hh, hd])
            have := ib (b.drop (half b.length)) (by rw [List.length_drop, List.length_drop, hlen]) hd e2
            exact this.mono (fun x hx => by simp [hx]) (fun x hx => by simp [hx])
          · have := ia (b.take (half b.length)) (by rw [List.length_take, List.length_take, hlen]) hh e1
            exact this.mono (fun x hx => by simp [hx]) (fun x hx => by simp [hx])
        · exact ⟨_, List.mem_append_right _ (List.mem_singleton.2 rfl), _, List.mem_append_right _ (List.mem_singleton.2 rfl), c1, c2⟩

/-! ### A link proves its beginning -/

theorem link_length (l : List ByteArray) : ∀ m whole, 1 ≤ m → m ≤ l.length → (link l m whole).length = long l.length m whole := by
  induction l using list_ind with
  | h l ih =>
    intro m whole h1 h2
    by_cases hm : m = l.length
    · rw [link_all l m whole hm, long_all _ m whole hm]; cases whole <;> rfl
    · obtain ⟨ia, ib⟩ := ih (by omega)
      by_cases hi : m ≤ half l.length
      · rw [link_left l m whole (by omega) hm hi, long_left _ m whole (by omega) hm hi, List.length_append, ia m whole h1 (by rw [take_len l (by omega)]; exact hi), take_len l (by omega)]
        simp; omega
      · rw [link_right l m whole (by omega) hm hi, long_right _ m whole (by omega) hm hi, List.length_append, ib (m - half l.length) false (by omega) (by rw [drop_len]; omega), drop_len]
        simp; omega

theorem take_half (l : List ByteArray) (m : Nat) (h20 : l.length ≤ 20) (h : half l.length < m) (h2 : m ≤ l.length) :
    root (l.take m) = node (root (l.take (half l.length))) (root ((l.drop (half l.length)).take (m - half l.length))) ∧
    texts (l.take m) = texts (l.take (half l.length)) ++ texts ((l.drop (half l.length)).take (m - half l.length)) ++ [Dg.joined [wNode, root (l.take (half l.length)), root ((l.drop (half l.length)).take (m - half l.length))]] := by
  have hp := half_pos l.length
  have hlen : (l.take m).length = m := by rw [List.length_take]; omega
  have hh : half (l.take m).length = half l.length := by rw [hlen]; exact half_same _ h20 m h2 h (by omega)
  rw [root_node (l.take m) (by omega), texts_node (l.take m) (by omega), hh, List.take_take, List.drop_take, Nat.min_eq_left (by omega)]
  exact ⟨rfl, rfl⟩

theorem both_link (l : List ByteArray) : ∀ m whole old, l.length ≤ 20 → 1 ≤ m → m ≤ l.length → (whole = true → old = root (l.take m)) → both l.length m whole old (link l m whole) = (root (l.take m), root l) := by
  induction l using list_ind with
  | h l ih =>
    intro m whole old h20 h1 h2 ho
    by_cases hm : m = l.length
    · rw [link_all l m whole hm, both_all _ _ _ _ _ hm]
      have hr : l.take m = l := by rw [hm]; exact List.take_length
      rw [hr] at ho ⊢
      cases whole with
      | true => rw [ho rfl]; rfl
      | false => rfl
    · obtain ⟨ia, ib⟩ := ih (by omega)
      have h3 := half_lt l.length (by omega)
      by_cases hi : m ≤ half l.length
      · have hl := take_len l (by omega)
        have ht : (l.take (half l.length)).take m = l.take m := by rw [List.take_take, Nat.min_eq_left hi]
        have e := ia m whole old (by omega) h1 (by omega) (by rw [ht]; exact ho)
        rw [hl, ht] at e
        rw [link_left l m whole (by omega) hm hi, both_left _ _ _ _ _ (by omega) hm hi, List.dropLast_concat, last_snoc, e, root_node l (by omega)]
      · have e := ib (m - half l.length) false old (by rw [drop_len]; omega) (by omega) (by rw [drop_len]; omega) (by simp)
        rw [drop_len] at e
        rw [link_right l m whole (by omega) hm hi, both_right _ _ _ _ _ (by omega) hm hi, List.dropLast_concat, last_snoc, e, root_node l (by omega), (take_half l m h20 (by omega) h2).1]

/-! ### A link that proves another beginning shows a collision -/

theorem continues (l : List ByteArray) : ∀ m whole old p, l.length ≤ 20 → 1 ≤ m → m ≤ l.length → (both l.length m whole old p).2 = root l →
    Coll (texts l) (linkTexts l.length m whole old p) ∨ (both l.length m whole old p).1 = root (l.take m) := by
  induction l using list_ind with
  | h l ih =>
    intro m whole old p h20 h1 h2 hr
    by_cases hm : m = l.length
    · right
      have ht : l.take m = l := by rw [hm]; exact List.take_length
      rw [ht, ← hr, both_all _ _ _ _ _ hm]
      cases whole <;> rfl
    · obtain ⟨ia, ib⟩ := ih (by omega)
      have h3 := half_lt l.length (by omega)
      rw [texts_node l (by omega)]
      by_cases hi : m ≤ half l.length
      · have hl := take_len l (by omega)
        have ht : (l.take (half l.length)).take m = l.take m := by rw [List.take_take, Nat.min_eq_left hi]
        rw [linkTexts_left _ _ _ _ _ (by omega) hm hi, both_left _ _ _ _ _ (by omega) hm hi]
        rw [both_left _ _ _ _ _ (by omega) hm hi, root_node l (by omega)] at hr
        rcases node_coll _ _ _ _ hr with ⟨e1, e2⟩ | ⟨c1, c2⟩
        · have := ia m whole old p.dropLast (by omega) h1 (by omega) (by rw [hl]; exact e1)
          rw [hl, ht] at this
          rcases this with hc | he
          · exact .inl (hc.mono (fun x hx => by simp [hx]) (fun x hx => by simp [hx]))
          · exact .inr he
        · exact .inl ⟨_, List.mem_append_right _ (List.mem_singleton.2 rfl), _, List.mem_append_right _ (List.mem_singleton.2 rfl), fun e => c1 e.symm, c2.symm⟩
      · rw [linkTexts_right _ _ _ _ _ (by omega) hm hi, both_right _ _ _ _ _ (by omega) hm hi]
        rw [both_right _ _ _ _ _ (by omega) hm hi, root_node l (by omega)] at hr
        rcases node_coll _ _ _ _ hr with ⟨e1, e2⟩ | ⟨c1, c2⟩
        · have := ib (m - half l.length) false old p.dropLast (by rw [drop_len]; omega) (by omega) (by rw [drop_len]; omega) (by rw [drop_len]; exact e2)
          rw [drop_len] at this
          rcases this with hc | he
          · exact .inl (hc.mono (fun x hx => by simp [hx]) (fun x hx => by simp [hx]))
          · right
            rw [(take_half l m h20 (by omega) h2).1, ← e1, ← he]
        · exact .inl ⟨_, List.mem_append_right _ (List.mem_singleton.2 rfl), _, List.mem_append_right _ (List.mem_singleton.2 rfl), fun e => c1 e.symm, c2.symm⟩
end Go.Proofs.YteofiiggnegnkaaDoor.Tr
/- The tree's functions and the reference's, as the print has them, compute the plain ones: halves, roots, paths, links. -/
namespace Go.Proofs.YteofiiggnegnkaaDoor.P
open Go.RowKit Go.Proofs.YteofiiggnegnkaaDoor Go.Proofs.YteofiiggnegnkaaDoorW.PrintWords Go.Proofs.YteofiiggnegnkaaDoorW.PrintLast Go.Proofs.YteofiiggnegnkaaDoorW.PrintMore
set_option linter.unusedVariables false
set_option linter.unusedSimpArgs false

/-- At most 20 strings of at most 100 bytes. -/
def Small (l : List ByteArray) : Prop := ∀ x ∈ l, x.size ≤ 100

theorem Small.take {l : List ByteArray} (h : Small l) (k : Nat) : Small (l.take k) := fun x hx => h x (List.mem_of_mem_take hx)
theorem Small.drop {l : List ByteArray} (h : Small l) (k : Nat) : Small (l.drop k) := fun x hx => h x (List.mem_of_mem_drop hx)
theorem Small.getD {l : List ByteArray} (h : Small l) (i : Nat) : (l.getD i ByteArray.empty).size ≤ 100 := by
  rw [List.getD_eq_getElem?_getD]
  rcases Nat.lt_or_ge i l.length with h1 | h1
  · rw [List.getElem?_eq_getElem h1]; exact h _ (List.getElem_mem h1)
  · rw [List.getElem?_eq_none h1]; decide
theorem Small.cons {x : ByteArray} {l : List ByteArray} (h1 : x.size ≤ 100) (h : Small l) : Small (x :: l) := fun y hy => by
  rcases List.mem_cons.1 hy with rfl | h2
  · exact h1
  · exact h y h2
theorem Small.nil : Small [] := fun y hy => by cases hy
theorem Small.append {l m : List ByteArray} (h1 : Small l) (h2 : Small m) : Small (l ++ m) := fun y hy => by
  rcases List.mem_append.1 hy with h | h
  · exact h1 y h
  · exact h2 y h
theorem Small.dropLast {l : List ByteArray} (h : Small l) : Small l.dropLast := fun x hx => h x ((List.dropLast_sublist l).subset hx)
theorem Small.last {l : List ByteArray} (h : Small l) : (Tr.last l).size ≤ 100 := by
  unfold Tr.last
  cases hl : l.getLast? with
  | none => decide
  | some x => exact h x (List.mem_of_getLast? hl)

theorem root_size (l : List ByteArray) : (Tr.root l).size = 16 := by
  have := Tr.isD_root l
  unfold Dg.isD at this
  rw [Bool.and_eq_true, beq_iff_eq] at this
  exact this.1
theorem isD_size {x : ByteArray} (h : Dg.isD x = true) : x.size = 16 := by
  unfold Dg.isD at h
  rw [Bool.and_eq_true, beq_iff_eq] at h
  exact h.1
theorem node_size (a b : ByteArray) : (Tr.node a b).size = 16 := isD_size (Dg.isD_list _)
theorem joined_small (l : List ByteArray) (h : Small l) : (Dg.joinedL l).length ≤ l.length * 122 := by
  induction l with
  | nil => simp [Dg.joinedL]
  | cons x l ih =>
    have h1 := Dg.piece_le x (by have := h x (by simp); omega)
    have h2 := h x (by simp)
    have h3 := ih fun y hy => h y (by simp [hy])
    simp only [Dg.joinedL, List.flatMap_cons, List.length_append, List.length_cons] at h3 ⊢
    omega

theorem ref_list3 (l : List ByteArray) (h3 : l.length ≤ 3) (h : Small l) (k : Nat) (hk : 1300 ≤ k) : pandectref01_List.f k l = some (Dg.list l) := by
  have := joined_small l h
  exact ref_list l h3 (by omega) k (by omega)
theorem ref_joined3 (l : List ByteArray) (h3 : l.length ≤ 3) (h : Small l) (k : Nat) (hk : 1300 ≤ k) : pandectref01_Joined.f k l = some (Dg.joined l) := by
  have := joined_small l h
  exact ref_joined l h3 (by omega) k (by omega)
theorem dig_list3 (l : List ByteArray) (h3 : l.length ≤ 3) (h : Small l) : digest_List.f l = some (Dg.list l) := by
  have := joined_small l h
  unfold digest_List.f
  rw [if_pos ⟨by omega, by omega⟩]

/-! ### Halves -/

theorem half_loop (n : Nat) (hn : n ≤ 1000000) : ∀ f c k : Nat, f < k → 1 ≤ c → c ≤ n → n ≤ c * 2 ^ f → tree_half.l0 k (n : Int) (c : Int) = some ((Tr.halfGo f c n : Nat) : Int) := by
  intro f
  induction f with
  | zero =>
    intro c k hk h1 h2 h3
    obtain ⟨k, rfl⟩ : ∃ k', k = k' + 1 := ⟨k - 1, by omega⟩
    have hw : wrap64 ((c : Int) * 2) = ((c * 2 : Nat) : Int) := by rw [IntWalk.wrap64_in _ (by omega)]; omega
    rw [tree_half.l0, hw, if_neg (by omega)]; rfl
  | succ f ih =>
    intro c k hk h1 h2 h3
    obtain ⟨k, rfl⟩ : ∃ k', k = k' + 1 := ⟨k - 1, by omega⟩
    have hw : wrap64 ((c : Int) * 2) = ((c * 2 : Nat) : Int) := by rw [IntWalk.wrap64_in _ (by omega)]; omega
    rw [tree_half.l0, hw]
    simp only [Tr.halfGo]
    by_cases h : c * 2 < n
    · rw [if_pos (by omega), if_pos h]
      exact ih (c * 2) k (by omega) (by omega) (by omega) (by rw [Nat.mul_assoc, ← Nat.pow_succ']; exact h3)
    · rw [if_neg (by omega), if_neg h]

theorem half_is (n : Nat) (h1 : 1 ≤ n) (hn : n ≤ 1000000) (k : Nat) (hk : 100 ≤ k) : tree_half.f k (n : Int) = some ((Tr.half n : Nat) : Int) :=
  half_loop n hn 64 1 k (by omega) (by omega) h1 (by omega)

theorem ref_half_loop (n : Nat) (hn : n ≤ 1000000) : ∀ f c k : Nat, f < k → 1 ≤ c → c ≤ n → n ≤ c * 2 ^ f → pandectref02_Half.l0 k (n : Int) (c : Int) = some ((Tr.halfGo f c n : Nat) : Int) := by
  intro f
  induction f with
  | zero =>
    intro c k hk h1 h2 h3
    obtain ⟨k, rfl⟩ : ∃ k', k = k' + 1 := ⟨k - 1, by omega⟩
    have hw : wrap64 (2 * (c : Int)) = ((c * 2 : Nat) : Int) := by rw [IntWalk.wrap64_in _ (by omega)]; omega
    rw [pandectref02_Half.l0, hw, if_neg (by omega)]; rfl
  | succ f ih =>
    intro c k hk h1 h2 h3
    obtain ⟨k, rfl⟩ : ∃ k', k = k' + 1 := ⟨k - 1, by omega⟩
    have hw : wrap64 (2 * (c : Int)) = ((c * 2 : Nat) : Int) := by rw [IntWalk.wrap64_in _ (by omega)]; omega
    rw [pandectref02_Half.l0, hw]
    simp only [Tr.halfGo]
    by_cases h : c * 2 < n
    · rw [if_pos (by omega), if_pos h]
      exact ih (c * 2) k (by omega) (by omega) (by omega) (by rw [Nat.mul_assoc, ← Nat.pow_succ']; exact h3)
    · rw [if_neg (by omega), if_neg h]

theorem ref_half (n : Nat) (h1 : 1 ≤ n) (hn : n ≤ 1000000) (k : Nat) (hk : 100 ≤ k) : pandectref02_Half.f k (n : Int) = some ((Tr.half n : Nat) : Int) :=
  ref_half_loop n hn 64 1 k (by omega) (by omega) h1 (by omega)

/-! ### Roots -/

theorem node_is (a b : ByteArray) (ha : a.size ≤ 100) (hb : b.size ≤ 100) : tree_node.f a b = some (Tr.node a b) := by
  unfold tree_node.f
  rw [dig_list3 _ (by simp) (.cons (by decide) (.cons ha (.cons hb .nil)))]
  rfl

theorem ref_node (a b : ByteArray) (ha : a.size ≤ 100) (hb : b.size ≤ 100) (k : Nat) (hk : 1300 ≤ k) : pandectref02_node.f k a b = some (Tr.node a b) := by
  unfold pandectref02_node.f
  rw [ref_list3 _ (by simp) (.cons (by decide) (.cons ha (.cons hb .nil))) k hk]
  rfl
theorem ref_leaf (a : ByteArray) (ha : a.size ≤ 100) (k : Nat) (hk : 1300 ≤ k) : pandectref02_leaf.f k a = some (Tr.leaf a) := by
  unfold pandectref02_leaf.f
  rw [ref_list3 _ (by simp) (.cons (by decide) (.cons ha .nil)) k hk]
  rfl
theorem ref_empty (k : Nat) (hk : 1300 ≤ k) : pandectref02_Empty.f k = some Tr.empty := by
  unfold pandectref02_Empty.f
  rw [ref_list3 _ (by simp) (.cons (by decide) .nil) k hk]
  rfl

theorem root_is (l : List ByteArray) : ∀ k : Nat, l.length ≤ 20 → Small l → 1400 + l.length ≤ k → tree_Root.f k l = some (Tr.root l) := by
  induction l using Tr.list_ind with
  | h l ih =>
    intro k h20 hs hk
    obtain ⟨k, rfl⟩ : ∃ k', k = k' + 1 := ⟨k - 1, by omega⟩
    by_cases h0 : l.length = 0
    · rw [tree_Root.f, if_pos (by omega), Tr.root_zero l h0, dig_list3 _ (by simp) (.cons (by decide) .nil)]
      rfl
    · by_cases h1 : l.length = 1
      · rw [tree_Root.f, if_neg (by omega), if_pos (by omega), if_pos (by omega), Tr.root_one l h1, show rdOf ByteArray.empty l 0 = l.getD 0 ByteArray.empty from rfl, dig_list3 _ (by simp) (.cons (by decide) (.cons (hs.getD 0) .nil))]
        rfl
      · obtain ⟨ia, ib⟩ := ih (by omega)
        have h2 := Tr.half_lt l.length (by omega)
        have h3 := Tr.half_pos l.length
        have hl := Tr.take_len l (by omega)
        have hr := Tr.drop_len l
        rw [tree_Root.f, if_neg (by omega), if_neg (by omega), half_is _ (by omega) (by omega) k (by omega), Option.bind_some, if_pos (by omega), if_pos (by omega)]
        simp only [Int.toNat_natCast]
        rw [ia k (by omega) (hs.take _) (by omega), Option.bind_some, ib k (by omega) (hs.drop _) (by omega), Option.bind_some, node_is _ _ (by rw [root_size]; omega) (by rw [root_size]; omega), Tr.root_node l (by omega)]
        rfl

theorem ref_root (l : List ByteArray) : ∀ k : Nat, l.length ≤ 20 → Small l → 1400 + l.length ≤ k → pandectref02_Root.f k l = some (Tr.root l) := by
  induction l using Tr.list_ind with
  | h l ih =>
    intro k h20 hs hk
    obtain ⟨k, rfl⟩ : ∃ k', k = k' + 1 := ⟨k - 1, by omega⟩
    by_cases h0 : l.length = 0
    · rw [pandectref02_Root.f, if_pos (by omega), Tr.root_zero l h0, ref_empty k (by omega)]
      rfl
    · by_cases h1 : l.length = 1
      · rw [pandectref02_Root.f, if_neg (by omega), if_pos (by omega), if_pos (by omega), Tr.root_one l h1, show rdOf ByteArray.empty l 0 = l.getD 0 ByteArray.empty from rfl, ref_leaf _ (hs.getD 0) k (by omega)]
        rfl
      · obtain ⟨ia, ib⟩ := ih (by omega)
        have h2 := Tr.half_lt l.length (by omega)
        have h3 := Tr.half_pos l.length
        have hl := Tr.take_len l (by omega)
        have hr := Tr.drop_len l
        rw [pandectref02_Root.f, if_neg (by omega), if_neg (by omega), ref_half _ (by omega) (by omega) k (by omega), Option.bind_some, if_pos (by omega), if_pos (by omega)]
        simp only [Int.toNat_natCast]
        rw [ia k (by omega) (hs.take _) (by omega), Option.bind_some, ib k (by omega) (hs.drop _) (by omega), Option.bind_some, ref_node _ _ (by rw [root_size]; omega) (by rw [root_size]; omega) k (by omega), Tr.root_node l (by omega)]
        rfl

/-! ### A list the other way round -/

theorem rev_loop : ∀ (n : Nat) (M : List ByteArray), M.length = n → ∀ (A B : List ByteArray) (k : Nat), A.length + M.length + B.length ≤ 1000000 → n < k →
    slices_Reverse_string_string.l0 k (A ++ M ++ B) (A.length : Int) ((A.length : Int) + M.length - 1) = some (A ++ M.reverse ++ B) := by
  intro n
  induction n using Nat.strongRecOn with
  | _ n ih =>
    intro M hM A B k hb hk
    obtain ⟨k, rfl⟩ : ∃ k', k = k' + 1 := ⟨k - 1, by omega⟩
    rcases M with _ | ⟨a, M⟩
    · rw [slices_Reverse_string_string.l0, if_neg (by simp only [List.length_nil]; omega)]; simp
    · rcases List.eq_nil_or_concat M with rfl | ⟨M', b, rfl⟩
      · rw [slices_Reverse_string_string.l0, if_neg (by simp only [List.length_cons, List.length_nil]; omega)]; simp
      · simp only [List.concat_eq_append] at hM hb ⊢
        simp only [List.length_cons, List.length_append, List.length_nil] at hM hb ⊢
        have hlen : (A ++ a :: (M' ++ [b]) ++ B).length = A.length + (M'.length + 2) + B.length := by simp; omega
        have hj : (A.length : Int) + ((M'.length + (0 + 1) + 1 : Nat) : Int) - 1 = ((A.length + M'.length + 1 : Nat) : Int) := by omega
        rw [hj, slices_Reverse_string_string.l0, if_pos (by omega), if_pos (by omega), if_pos (by omega), if_pos (by omega), if_pos (by omega)]
        have w1 : wrap64 ((A.length : Int) + 1) = ((A.length + 1 : Nat) : Int) := by rw [IntWalk.wrap64_in _ (by omega)]; omega
        have w2 : wrap64 (((A.length + M'.length + 1 : Nat) : Int) - 1) = ((A.length + M'.length : Nat) : Int) := by rw [IntWalk.wrap64_in _ (by omega)]; omega
        rw [w1, w2, rd_nat, rd_nat]
        simp only [Int.toNat_natCast]
        have q1 : A ++ a :: (M' ++ [b]) ++ B = (A ++ a :: M') ++ b :: B := by simp
        have q2 : (A ++ a :: M').length = A.length + M'.length + 1 := by simp; omega
        have g1 : (A ++ a :: (M' ++ [b]) ++ B).getD (A.length + M'.length + 1) ByteArray.empty = b := by
          rw [q1, ← q2, List.getD_eq_getElem?_getD, List.getElem?_append_right (Nat.le_refl _)]
          simp
        have g2 : (A ++ a :: (M' ++ [b]) ++ B).getD A.length ByteArray.empty = a := by
          rw [List.getD_eq_getElem?_getD]
          simp [List.getElem?_append]
        rw [g1, g2]
        have s1 : ((A ++ a :: (M' ++ [b]) ++ B).set A.length b).set (A.length + M'.length + 1) a = (A ++ [b]) ++ M' ++ ([a] ++ B) := by
          have q3 : (A ++ a :: (M' ++ [b]) ++ B).set A.length b = (A ++ b :: M') ++ b :: B := by
            rw [q1, List.append_assoc, List.set_append_right _ _ (Nat.le_refl _)]
            simp
          have q4 : (A ++ b :: M').length = A.length + M'.length + 1 := by simp; omega
          rw [q3, ← q4, List.set_append_right _ _ (Nat.le_refl _)]
          simp
        rw [s1]
        have e := ih M'.length (by omega) M' rfl (A ++ [b]) ([a] ++ B) k (by simp; omega) (by omega)
        rw [show ((A ++ [b]).length : Int) = ((A.length + 1 : Nat) : Int) by simp, show ((A.length + 1 : Nat) : Int) + (M'.length : Int) - 1 = ((A.length + M'.length : Nat) : Int) by omega] at e
        rw [e]
        simp

theorem rev_is (l : List ByteArray) (h : l.length ≤ 1000) (k : Nat) (hk : l.length < k) : slices_Reverse_string_string.f k l = some l.reverse := by
  unfold slices_Reverse_string_string.f
  have e := rev_loop l.length l rfl [] [] k (by simp; omega) hk
  have w : wrap64 ((l.length : Int) - 1) = (([] : List ByteArray).length : Int) + l.length - 1 := by rw [IntWalk.wrap64_in _ (by omega)]; simp
  rw [w]
  simp only [List.nil_append, List.append_nil] at e
  exact e

/-! ### The tree's paths and links -/

theorem path_loop (l : List ByteArray) : ∀ (i k : Nat) (acc : List ByteArray), l.length ≤ 20 → Small l → i < l.length → acc.length + l.length ≤ 100 → 1600 + l.length ≤ k →
    tree_Path.l0 k l (i : Int) acc = some (Tr.path l i ++ acc.reverse, 0) := by
  induction l using Tr.list_ind with
  | h l ih =>
    intro i k acc h20 hs hi ha hk
    obtain ⟨k, rfl⟩ : ∃ k', k = k' + 1 := ⟨k - 1, by omega⟩
    by_cases h1 : l.length ≤ 1
    · rw [tree_Path.l0, if_neg (by omega), rev_is acc (by omega) k (by omega), Tr.path_one l i h1]
      rfl
    · obtain ⟨ia, ib⟩ := ih (by omega)
      have h2 := Tr.half_lt l.length (by omega)
      have h3 := Tr.half_pos l.length
      have hl := Tr.take_len l (by omega)
      have hr := Tr.drop_len l
      rw [tree_Path.l0, if_pos (by omega), half_is _ (by omega) (by omega) k (by omega), Option.bind_some]
      simp only [Int.toNat_natCast]
      by_cases hh : i < Tr.half l.length
      · rw [if_pos (by omega), if_pos (by omega), if_pos (by omega), root_is _ k (by omega) (hs.drop _) (by omega), Option.bind_some, if_pos (by omega), ia i k _ (by omega) (hs.take _) (by omega) (by rw [List.length_append, List.length_singleton]; omega) (by omega), Tr.path_left l i (by omega) hh]
        simp
      · have w : wrap64 ((i : Int) - ((Tr.half l.length : Nat) : Int)) = ((i - Tr.half l.length : Nat) : Int) := by rw [IntWalk.wrap64_in _ (by omega)]; omega
        rw [if_neg (by omega), if_pos (by omega), if_pos (by omega), root_is _ k (by omega) (hs.take _) (by omega), Option.bind_some, if_pos (by omega), w, ib _ k _ (by omega) (hs.drop _) (by omega) (by rw [List.length_append, List.length_singleton]; omega) (by omega), Tr.path_right l i (by omega) hh]
        simp

theorem path_is (l : List ByteArray) (i : Nat) (h20 : l.length ≤ 20) (hs : Small l) (hi : i < l.length) (k : Nat) (hk : 1700 ≤ k) : tree_Path.f k l (i : Int) = some (Tr.path l i, 0) := by
  obtain ⟨k, rfl⟩ : ∃ k', k = k' + 1 := ⟨k - 1, by omega⟩
  unfold tree_Path.f
  rw [if_neg (by omega), decide_eq_false (by omega), tree_Path.j0, if_neg (by decide), path_loop l i k [] h20 hs hi (by simp; omega) (by omega)]
  simp

theorem path_bad (l : List ByteArray) (i : Int) (hi : i < 0 ∨ (l.length : Int) ≤ i) (k : Nat) (hk : 1 ≤ k) : tree_Path.f k l i = some ([], 1) := by
  obtain ⟨k, rfl⟩ : ∃ k', k = k' + 1 := ⟨k - 1, by omega⟩
  unfold tree_Path.f
  split
  · rw [tree_Path.j0, if_pos rfl]
  · rw [decide_eq_true (by omega), tree_Path.j0, if_pos rfl]

theorem link_loop (l : List ByteArray) : ∀ (m k : Nat) (acc : List ByteArray) (whole : Bool), l.length ≤ 20 → Small l → 1 ≤ m → m ≤ l.length → acc.length + l.length ≤ 100 → 1600 + l.length ≤ k →
    tree_Link.l0 k l (m : Int) acc whole = some (Tr.link l m whole ++ acc.reverse, 0) := by
  induction l using Tr.list_ind with
  | h l ih =>
    intro m k acc whole h20 hs h1 hm ha hk
    obtain ⟨k, rfl⟩ : ∃ k', k = k' + 1 := ⟨k - 1, by omega⟩
    by_cases he : m = l.length
    · rw [tree_Link.l0, if_neg (by omega), Tr.link_all l m whole he]
      cases whole with
      | true => rw [if_pos rfl, rev_is acc (by omega) k (by omega)]; rfl
      | false =>
        rw [if_neg (by decide), root_is l k h20 hs (by omega), Option.bind_some, if_pos (by omega), rev_is _ (by rw [List.length_append, List.length_singleton]; omega) k (by rw [List.length_append, List.length_singleton]; omega)]
        simp
    · obtain ⟨ia, ib⟩ := ih (by omega)
      have h2 := Tr.half_lt l.length (by omega)
      have h3 := Tr.half_pos l.length
      have hl := Tr.take_len l (by omega)
      have hr := Tr.drop_len l
      rw [tree_Link.l0, if_pos (by omega), half_is _ (by omega) (by omega) k (by omega), Option.bind_some]
      simp only [Int.toNat_natCast]
      by_cases hh : m ≤ Tr.half l.length
      · rw [if_pos (by omega), if_pos (by omega), if_pos (by omega), root_is _ k (by omega) (hs.drop _) (by omega), Option.bind_some, if_pos (by omega), ia m k _ whole (by omega) (hs.take _) h1 (by omega) (by rw [List.length_append, List.length_singleton]; omega) (by omega), Tr.link_left l m whole (by omega) he hh]
        simp
      · have w : wrap64 ((m : Int) - ((Tr.half l.length : Nat) : Int)) = ((m - Tr.half l.length : Nat) : Int) := by rw [IntWalk.wrap64_in _ (by omega)]; omega
        rw [if_neg (by omega), if_pos (by omega), if_pos (by omega), root_is _ k (by omega) (hs.take _) (by omega), Option.bind_some, if_pos (by omega), w, ib _ k _ false (by omega) (hs.drop _) (by omega) (by omega) (by rw [List.length_append, List.length_singleton]; omega) (by omega), Tr.link_right l m whole (by omega) he hh]
        simp

/-- What Link answers for a number that is in range. -/
def linkOf (l : List ByteArray) (m : Nat) : List ByteArray := if m = 0 then [] else Tr.link l m true

theorem link_is (l : List ByteArray) (m : Nat) (h20 : l.length ≤ 20) (hs : Small l) (hm : m ≤ l.length) (k : Nat) (hk : 1700 ≤ k) : tree_Link.f k l (m : Int) = some (linkOf l m, 0) := by
  obtain ⟨k, rfl⟩ : ∃ k', k = k' + 1 := ⟨k - 1, by omega⟩
  unfold tree_Link.f linkOf
  rw [if_neg (by omega), decide_eq_false (by omega), tree_Link.j0, if_neg (by decide)]
  by_cases h0 : m = 0
  · rw [if_pos (by omega), if_pos h0]
  · rw [if_neg (by omega), if_neg h0, link_loop l m k [] true h20 hs (by omega) hm (by simp; omega) (by omega)]
    simp

theorem check_is (r : ByteArray) (n i : Int) (x : ByteArray) (p : List ByteArray) (hp : p.length ≤ 1000) (hx : x.size ≤ 1000) : tree_Check.f r n i x p = some (Tr.check r n i x p) := by
  unfold tree_Check.f; rw [if_pos ⟨by omega, by omega⟩]
theorem extends_is (o : ByteArray) (m : Int) (r : ByteArray) (n : Int) (p : List ByteArray) (hp : p.length ≤ 1000) : tree_Extends.f o m r n p = some (Tr.extends_ o m r n p) := by
  unfold tree_Extends.f; rw [if_pos (by omega)]

/-! ### The reference's paths and links -/

end Go.Proofs.YteofiiggnegnkaaDoor.P
/- The reference's tests of paths and links, as the print has them, compute the plain ones; the strings that are digested; what shows a collision. -/
namespace Go.Proofs.YteofiiggnegnkaaDoor.P
open Go.RowKit Go.Proofs.YteofiiggnegnkaaDoor Go.Proofs.YteofiiggnegnkaaDoorW.PrintWords Go.Proofs.YteofiiggnegnkaaDoorW.PrintLast Go.Proofs.YteofiiggnegnkaaDoorW.PrintMore
set_option linter.unusedVariables false
set_option linter.unusedSimpArgs false

/-! ### Lengths -/

/-! ### Digests -/

/-! ### The way up -/

theorem last_rd (p : List ByteArray) (h : 0 < p.length) (hb : p.length ≤ 1000000) : rdOf ByteArray.empty p (wrap64 ((p.length : Int) - 1)) = Tr.last p := by
  have w : wrap64 ((p.length : Int) - 1) = ((p.length - 1 : Nat) : Int) := by rw [IntWalk.wrap64_in _ (by omega)]; omega
  rw [w, rd_lt p _ (by omega)]
  unfold Tr.last
  rw [List.getLast?_eq_getElem?, List.getElem?_eq_getElem (by omega)]
  rfl
theorem last_w (p : List ByteArray) (h : 0 < p.length) (hb : p.length ≤ 1000000) : wrap64 ((p.length : Int) - 1) = ((p.length - 1 : Nat) : Int) := by rw [IntWalk.wrap64_in _ (by omega)]; omega
theorem take_last (p : List ByteArray) : p.take (p.length - 1) = p.dropLast := (List.dropLast_eq_take).symm

theorem both_size (n : Nat) : ∀ (m : Nat) (whole : Bool) (old : ByteArray) (p : List ByteArray), old.size ≤ 100 → Small p → (Tr.both n m whole old p).1.size ≤ 100 ∧ (Tr.both n m whole old p).2.size ≤ 100 := by
  induction n using Nat.strongRecOn with
  | _ n ih =>
    intro m whole old p ho hs
    rw [Tr.both]
    split
    · split
      · exact ⟨ho, ho⟩
      · exact ⟨hs.last, hs.last⟩
    · split
      · exact ⟨ho, ho⟩
      · rename_i h1
        simp only []
        split
        · exact ⟨(ih _ (Tr.half_lt n (by omega)) _ _ _ _ ho hs.dropLast).1, by rw [node_size]; omega⟩
        · exact ⟨by rw [node_size]; omega, by rw [node_size]; omega⟩

theorem ref_both (n : Nat) : ∀ (m k : Nat) (whole : Bool) (old : ByteArray) (p : List ByteArray), 1 ≤ m → n ≤ 1000000 → m ≤ n → old.size ≤ 100 → Small p → p.length ≤ 1000000 → Tr.long n m whole = p.length → 1400 + n ≤ k →
    pandectref02_both.f k (n : Int) (m : Int) whole old p = some (Tr.both n m whole old p) := by
  induction n using Nat.strongRecOn with
  | _ n ih =>
    intro m k whole old p h1 h2 hm ho hs hp hl hk
    obtain ⟨k, rfl⟩ : ∃ k', k = k' + 1 := ⟨k - 1, by omega⟩
    by_cases he : m = n
    · rw [pandectref02_both.f, if_pos (by omega), Tr.both_all n m whole old p he]
      rw [Tr.long_all n m whole he] at hl
      cases whole with
      | true => rfl
      | false =>
        simp only [Bool.false_eq_true, if_false] at hl
        rw [if_neg (by decide), if_pos (by omega)]
        obtain ⟨x, rfl⟩ := List.length_eq_one_iff.1 hl.symm
        rfl
    · have h3 := Tr.half_lt n (by omega)
      have h4 := Tr.half_pos n
      have hpos : 0 < p.length := by
        by_cases hh : m ≤ Tr.half n
        · rw [Tr.long_left n m whole (by omega) he hh] at hl; omega
        · rw [Tr.long_right n m whole (by omega) he hh] at hl; omega
      have hdl : p.dropLast.length = p.length - 1 := List.length_dropLast
      rw [pandectref02_both.f, if_neg (by omega), ref_half n (by omega) h2 k (by omega), Option.bind_some, last_rd p hpos hp, last_w p hpos hp, if_pos (by omega), if_pos (by omega), if_pos (by omega)]
      simp only [Int.toNat_natCast]
      rw [take_last]
      by_cases hh : m ≤ Tr.half n
      · rw [Tr.long_left n m whole (by omega) he hh] at hl
        rw [if_pos (by omega), ih (Tr.half n) h3 m k whole old _ h1 (by omega) hh ho hs.dropLast (by omega) (by omega) (by omega), Option.bind_some, ref_node _ _ (both_size _ _ _ _ _ ho hs.dropLast).2 hs.last k (by omega), Tr.both_left n m whole old p (by omega) he hh]
        rfl
      · rw [Tr.long_right n m whole (by omega) he hh] at hl
        have w1 : wrap64 ((n : Int) - ((Tr.half n : Nat) : Int)) = ((n - Tr.half n : Nat) : Int) := by rw [IntWalk.wrap64_in _ (by omega)]; omega
        have w2 : wrap64 ((m : Int) - ((Tr.half n : Nat) : Int)) = ((m - Tr.half n : Nat) : Int) := by rw [IntWalk.wrap64_in _ (by omega)]; omega
        have hbs := both_size (n - Tr.half n) (m - Tr.half n) false old p.dropLast ho hs.dropLast
        rw [if_neg (by omega), w1, w2, ih (n - Tr.half n) (by omega) _ k false old _ (by omega) (by omega) (by omega) ho hs.dropLast (by omega) (by omega) (by omega), Option.bind_some, ref_node _ _ hs.last hbs.1 k (by omega), Option.bind_some, ref_node _ _ hs.last hbs.2 k (by omega), Tr.both_right n m whole old p (by omega) he hh]
        rfl

/-! ### Check and Extends -/

theorem toList_iff (a b : ByteArray) : a.toList = b.toList ↔ a = b := by
  have := toList_eq_iff a b
  rw [Bool.eq_iff_iff, beq_iff_eq, decide_eq_true_iff] at this
  exact this

end Go.Proofs.YteofiiggnegnkaaDoor.P
/- Equal lists, few strings; the strings that are digested; what shows a collision. -/
namespace Go.Proofs.YteofiiggnegnkaaDoor.P
open Go.RowKit Go.Proofs.YteofiiggnegnkaaDoor Go.Proofs.YteofiiggnegnkaaDoorW.PrintWords Go.Proofs.YteofiiggnegnkaaDoorW.PrintLast Go.Proofs.YteofiiggnegnkaaDoorW.PrintMore
set_option linter.unusedVariables false
set_option linter.unusedSimpArgs false

/-! ### Equal lists, few strings -/

theorem same_loop (a b : List ByteArray) (hl : a.length = b.length) (ha : a.length ≤ 1000) : ∀ (r i k : Nat), i + r = a.length → a.take i = b.take i → r + 2 ≤ k → pandectref01_Same.l0 k a b (i : Int) = some (decide (a = b)) := by
  intro r
  induction r with
  | zero =>
    intro i k hi ht hk
    obtain ⟨k, rfl⟩ : ∃ k', k = k' + 1 := ⟨k - 1, by omega⟩
    rw [pandectref01_Same.l0, if_neg (by omega)]
    rw [show i = a.length by omega, List.take_length, hl, List.take_length] at ht
    rw [decide_eq_true ht]
  | succ r ih =>
    intro i k hi ht hk
    obtain ⟨k, rfl⟩ : ∃ k', k = k' + 1 := ⟨k - 1, by omega⟩
    have w : wrap64 ((i : Int) + 1) = ((i + 1 : Nat) : Int) := by rw [IntWalk.wrap64_in _ (by omega)]; omega
    rw [pandectref01_Same.l0, if_pos (by omega), if_pos (by omega), if_pos (by omega), rd_lt a i (by omega), rd_lt b i (by omega), w]
    by_cases he : a[i]'(by omega) = b[i]'(by omega)
    · rw [if_pos (by rw [he])]
      refine ih (i + 1) k (by omega) ?_ (by omega)
      rw [List.take_succ_eq_append_getElem (by omega), List.take_succ_eq_append_getElem (by omega), ht, he]
    · rw [if_neg (fun h => he ((toList_iff _ _).1 h)), decide_eq_false]
      intro h; subst h; exact he rfl

theorem same_is (a b : List ByteArray) (ha : a.length ≤ 1000) (k : Nat) (hk : 1100 ≤ k) : pandectref01_Same.f k a b = some (decide (a = b)) := by
  unfold pandectref01_Same.f
  by_cases hl : a.length = b.length
  · rw [if_pos (by omega)]
    exact same_loop a b hl ha a.length 0 k (by omega) (by simp) (by omega)
  · rw [if_neg (by omega), decide_eq_false]
    intro h; subst h; exact hl rfl

theorem few_loop (l : List ByteArray) (h20 : l.length ≤ 20) : ∀ (r i k : Nat), i + r = l.length → (∀ x ∈ l.take i, x.size ≤ 100) → r + 2 ≤ k → ∃ b, pandectref01_Few.l0 k l 100 (i : Int) = some b ∧ (b = true ↔ Small l) := by
  intro r
  induction r with
  | zero =>
    intro i k hi ht hk
    obtain ⟨k, rfl⟩ : ∃ k', k = k' + 1 := ⟨k - 1, by omega⟩
    rw [show i = l.length by omega, List.take_length] at ht
    refine ⟨true, ?_, fun _ => ht, fun _ => rfl⟩
    rw [pandectref01_Few.l0, if_neg (by omega), decide_eq_true (by omega)]
  | succ r ih =>
    intro i k hi ht hk
    obtain ⟨k, rfl⟩ : ∃ k', k = k' + 1 := ⟨k - 1, by omega⟩
    have w : wrap64 ((i : Int) + 1) = ((i + 1 : Nat) : Int) := by rw [IntWalk.wrap64_in _ (by omega)]; omega
    rw [pandectref01_Few.l0, if_pos (by omega), if_pos (by omega), rd_lt l i (by omega), w]
    by_cases he : (l[i]'(by omega)).size ≤ 100
    · rw [if_neg (by omega)]
      refine ih (i + 1) k (by omega) ?_ (by omega)
      intro x hx
      rw [List.take_succ_eq_append_getElem (by omega)] at hx
      rcases List.mem_append.1 hx with h | h
      · exact ht x h
      · rw [List.mem_singleton.1 h]; exact he
    · rw [if_pos (by omega)]
      exact ⟨false, rfl, fun h => (by cases h), fun h => absurd (h _ (List.getElem_mem (by omega))) he⟩

/-- few: at most 20 strings of at most 100 bytes. -/
theorem few_is (l : List ByteArray) (k : Nat) (hk : 100 ≤ k) : ∃ b, pandectlaw02_few.f k l = some b ∧ (b = true ↔ l.length ≤ 20 ∧ Small l) := by
  unfold pandectlaw02_few.f
  by_cases h : l.length ≤ 20
  · obtain ⟨b, h1, h2⟩ := few_loop l h l.length 0 k (by omega) (by simp) (by omega)
    refine ⟨b, ?_, by rw [h2]; exact ⟨fun h3 => ⟨h, h3⟩, fun h3 => h3.2⟩⟩
    rw [if_pos (by omega)]
    have h3 : pandectref01_Few.f k l 100 = some b := h1
    rw [h3]; rfl
  · exact ⟨false, by rw [if_neg (by omega)], fun h1 => (by cases h1), fun h1 => absurd h1.1 h⟩

/-! ### What is digested -/

theorem joined_size3 (l : List ByteArray) (h3 : l.length ≤ 3) (h : Small l) : (Dg.joined l).size ≤ 400 := by
  have := joined_small l h
  have h2 : (Dg.joined l).size = (Dg.joinedL l).length := rfl
  omega

theorem texts_ok (l : List ByteArray) : Small l → (∀ x ∈ Tr.texts l, x.size ≤ 400) ∧ ((Tr.texts l).length + 1 ≤ 2 * l.length ∨ (l.length = 0 ∧ (Tr.texts l).length = 1)) := by
  induction l using Tr.list_ind with
  | h l ih =>
    intro hs
    by_cases h0 : l.length = 0
    · rw [Tr.texts_zero l h0]
      refine ⟨fun x hx => ?_, .inr ⟨h0, rfl⟩⟩
      rw [List.mem_singleton.1 hx]
      exact joined_size3 _ (by simp) (.cons (by decide) .nil)
    · by_cases h1 : l.length = 1
      · rw [Tr.texts_one l h1]
        refine ⟨fun x hx => ?_, .inl (by rw [List.length_singleton]; omega)⟩
        rw [List.mem_singleton.1 hx]
        exact joined_size3 _ (by simp) (.cons (by decide) (.cons (hs.getD 0) .nil))
      · obtain ⟨ia, ib⟩ := ih (by omega)
        have h2 := Tr.half_lt l.length (by omega)
        have h3 := Tr.half_pos l.length
        have hl := Tr.take_len l (by omega)
        have hr := Tr.drop_len l
        obtain ⟨a1, a2⟩ := ia (hs.take _)
        obtain ⟨b1, b2⟩ := ib (hs.drop _)
        rw [Tr.texts_node l (by omega)]
        refine ⟨fun x hx => ?_, .inl ?_⟩
        · rcases List.mem_append.1 hx with h | h
          · rcases List.mem_append.1 h with h | h
            · exact a1 x h
            · exact b1 x h
          · rw [List.mem_singleton.1 h]
            exact joined_size3 _ (by simp) (.cons (by decide) (.cons (by rw [root_size]; omega) (.cons (by rw [root_size]; omega) .nil)))
        · rw [List.length_append, List.length_append, List.length_singleton]
          omega

theorem texts_le (l : List ByteArray) (h20 : l.length ≤ 20) (hs : Small l) : (Tr.texts l).length ≤ 40 := by
  have := (texts_ok l hs).2
  omega

theorem ref_texts (l : List ByteArray) : ∀ k : Nat, l.length ≤ 20 → Small l → 1600 + l.length ≤ k → pandectref02_Texts.f k l = some (Tr.texts l) := by
  induction l using Tr.list_ind with
  | h l ih =>
    intro k h20 hs hk
    obtain ⟨k, rfl⟩ : ∃ k', k = k' + 1 := ⟨k - 1, by omega⟩
    by_cases h0 : l.length = 0
    · rw [pandectref02_Texts.f, if_pos (by omega), Tr.texts_zero l h0, ref_joined3 _ (by simp) (.cons (by decide) .nil) k (by omega)]
      rfl
    · by_cases h1 : l.length = 1
      · rw [pandectref02_Texts.f, if_neg (by omega), if_pos (by omega), if_pos (by omega), Tr.texts_one l h1, show rdOf ByteArray.empty l 0 = l.getD 0 ByteArray.empty from rfl, ref_joined3 _ (by simp) (.cons (by decide) (.cons (hs.getD 0) .nil)) k (by omega)]
        rfl
      · obtain ⟨ia, ib⟩ := ih (by omega)
        have h2 := Tr.half_lt l.length (by omega)
        have h3 := Tr.half_pos l.length
        have hl := Tr.take_len l (by omega)
        have hr := Tr.drop_len l
        have ta := texts_le (l.take (Tr.half l.length)) (by omega) (hs.take _)
        have tb := texts_le (l.drop (Tr.half l.length)) (by omega) (hs.drop _)
        rw [pandectref02_Texts.f, if_neg (by omega), if_neg (by omega), ref_half _ (by omega) (by omega) k (by omega), Option.bind_some, if_pos (by omega), if_pos (by omega)]
        simp only [Int.toNat_natCast]
        rw [ref_root _ k (by omega) (hs.take _) (by omega), Option.bind_some, ref_root _ k (by omega) (hs.drop _) (by omega), Option.bind_some,
          ref_joined3 _ (by simp) (.cons (by decide) (.cons (by rw [root_size]; omega) (.cons (by rw [root_size]; omega) .nil))) k (by omega), Option.bind_some,
          ia k (by omega) (hs.take _) (by omega), Option.bind_some, ib k (by omega) (hs.drop _) (by omega), Option.bind_some, if_pos (by omega), Option.bind_some, Option.bind_some, if_pos (by rw [List.length_append, List.length_singleton]; omega), Tr.texts_node l (by omega)]
        rfl

theorem linkTexts_ok (n : Nat) : ∀ (m : Nat) (whole : Bool) (old : ByteArray) (p : List ByteArray), 1 ≤ m → m ≤ n → old.size ≤ 100 → Small p → (∀ x ∈ Tr.linkTexts n m whole old p, x.size ≤ 400) ∧ (Tr.linkTexts n m whole old p).length ≤ 2 * n := by
  induction n using Nat.strongRecOn with
  | _ n ih =>
    intro m whole old p h1 hm ho hp
    by_cases he : m = n
    · rw [Tr.linkTexts_all n m whole old p he]
      exact ⟨fun x hx => (by cases hx), by simp⟩
    · have h3 := Tr.half_lt n (by omega)
      have h4 := Tr.half_pos n
      by_cases hh : m ≤ Tr.half n
      · obtain ⟨a1, a2⟩ := ih (Tr.half n) h3 m whole old p.dropLast h1 hh ho hp.dropLast
        have hb := both_size (Tr.half n) m whole old p.dropLast ho hp.dropLast
        rw [Tr.linkTexts_left n m whole old p (by omega) he hh]
        refine ⟨fun x hx => ?_, by rw [List.length_append, List.length_singleton]; omega⟩
        rcases List.mem_append.1 hx with h | h
        · exact a1 x h
        · rw [List.mem_singleton.1 h]
          exact joined_size3 _ (by simp) (.cons (by decide) (.cons hb.2 (.cons hp.last .nil)))
      · obtain ⟨a1, a2⟩ := ih (n - Tr.half n) (by omega) (m - Tr.half n) false old p.dropLast (by omega) (by omega) ho hp.dropLast
        have hb := both_size (n - Tr.half n) (m - Tr.half n) false old p.dropLast ho hp.dropLast
        rw [Tr.linkTexts_right n m whole old p (by omega) he hh]
        refine ⟨fun x hx => ?_, by rw [List.length_append, List.length_append, List.length_singleton, List.length_singleton]; omega⟩
        rcases List.mem_append.1 hx with h | h
        · rcases List.mem_append.1 h with h | h
          · exact a1 x h
          · rw [List.mem_singleton.1 h]
            exact joined_size3 _ (by simp) (.cons (by decide) (.cons hp.last (.cons hb.1 .nil)))
        · rw [List.mem_singleton.1 h]
          exact joined_size3 _ (by simp) (.cons (by decide) (.cons hp.last (.cons hb.2 .nil)))

theorem ref_linkTexts (n : Nat) : ∀ (m k : Nat) (whole : Bool) (old : ByteArray) (p : List ByteArray), 1 ≤ m → n ≤ 1000000 → m ≤ n → old.size ≤ 100 → Small p → p.length ≤ 1000000 → Tr.long n m whole = p.length → 1500 + n ≤ k →
    pandectref02_LinkTexts.f k (n : Int) (m : Int) whole old p = some (Tr.linkTexts n m whole old p) := by
  induction n using Nat.strongRecOn with
  | _ n ih =>
    intro m k whole old p h1 h2 hm ho hs hp hl hk
    obtain ⟨k, rfl⟩ : ∃ k', k = k' + 1 := ⟨k - 1, by omega⟩
    by_cases he : m = n
    · rw [pandectref02_LinkTexts.f, if_pos (by omega), Tr.linkTexts_all n m whole old p he]
    · have h3 := Tr.half_lt n (by omega)
      have h4 := Tr.half_pos n
      have hpos : 0 < p.length := by
        by_cases hh : m ≤ Tr.half n
        · rw [Tr.long_left n m whole (by omega) he hh] at hl; omega
        · rw [Tr.long_right n m whole (by omega) he hh] at hl; omega
      have hdl : p.dropLast.length = p.length - 1 := List.length_dropLast
      rw [pandectref02_LinkTexts.f, if_neg (by omega), ref_half n (by omega) h2 k (by omega), Option.bind_some, last_rd p hpos hp, last_w p hpos hp, if_pos (by omega), if_pos (by omega), if_pos (by omega)]
      simp only [Int.toNat_natCast]
      rw [take_last]
      by_cases hh : m ≤ Tr.half n
      · rw [Tr.long_left n m whole (by omega) he hh] at hl
        have hb := both_size (Tr.half n) m whole old p.dropLast ho hs.dropLast
        have tl := (linkTexts_ok (Tr.half n) m whole old p.dropLast h1 hh ho hs.dropLast).2
        rw [if_pos (by omega), ref_both (Tr.half n) m k whole old _ h1 (by omega) hh ho hs.dropLast (by omega) (by omega) (by omega), Option.bind_some, ih (Tr.half n) h3 m k whole old _ h1 (by omega) hh ho hs.dropLast (by omega) (by omega) (by omega), Option.bind_some,
          ref_joined3 _ (by simp) (.cons (by decide) (.cons hb.2 (.cons hs.last .nil))) k (by omega), Option.bind_some, if_pos (by omega), Tr.linkTexts_left n m whole old p (by omega) he hh]
        rfl
      · rw [Tr.long_right n m whole (by omega) he hh] at hl
        have w1 : wrap64 ((n : Int) - ((Tr.half n : Nat) : Int)) = ((n - Tr.half n : Nat) : Int) := by rw [IntWalk.wrap64_in _ (by omega)]; omega
        have w2 : wrap64 ((m : Int) - ((Tr.half n : Nat) : Int)) = ((m - Tr.half n : Nat) : Int) := by rw [IntWalk.wrap64_in _ (by omega)]; omega
        have hb := both_size (n - Tr.half n) (m - Tr.half n) false old p.dropLast ho hs.dropLast
        have tl := (linkTexts_ok (n - Tr.half n) (m - Tr.half n) false old p.dropLast (by omega) (by omega) ho hs.dropLast).2
        rw [if_neg (by omega), w1, w2, ref_both (n - Tr.half n) _ k false old _ (by omega) (by omega) (by omega) ho hs.dropLast (by omega) (by omega) (by omega), Option.bind_some, ih (n - Tr.half n) (by omega) _ k false old _ (by omega) (by omega) (by omega) ho hs.dropLast (by omega) (by omega) (by omega), Option.bind_some,
          ref_joined3 _ (by simp) (.cons (by decide) (.cons hs.last (.cons hb.1 .nil))) k (by omega), Option.bind_some, if_pos (by omega), Option.bind_some,
          ref_joined3 _ (by simp) (.cons (by decide) (.cons hs.last (.cons hb.2 .nil))) k (by omega), Option.bind_some, if_pos (by rw [List.length_append, List.length_singleton]; omega), Tr.linkTexts_right n m whole old p (by omega) he hh]
        rfl

/-! ### Two different strings with one digest are found -/

def Hit (l : List ByteArray) (i j : Nat) : Prop := (l.getD i ByteArray.empty) ≠ (l.getD j ByteArray.empty) ∧ Dg.sum (l.getD i ByteArray.empty) = Dg.sum (l.getD j ByteArray.empty)

theorem sums_getD (l : List ByteArray) (i : Nat) (h : i < l.length) : rdOf ByteArray.empty (l.map Dg.sum) (i : Int) = Dg.sum (l.getD i ByteArray.empty) := by
  rw [rd_lt _ i (by rw [List.length_map]; exact h), List.getElem_map, List.getD_eq_getElem?_getD, List.getElem?_eq_getElem h]
  rfl

theorem shown2 (l : List ByteArray) (hN : l.length ≤ 200) (i K0 : Nat) (hi : i < l.length) : ∀ (s j k : Nat), j + s = i →
    ((∀ k, K0 ≤ k → pandectref02_Shown.l1 k l (l.map Dg.sum) ((i + 1 : Nat) : Int) = some true) ∨ ∃ b, b < i ∧ j ≤ b ∧ Hit l i b) → K0 + s + 1 ≤ k →
    pandectref02_Shown.l2 k l (l.map Dg.sum) (i : Int) (j : Int) = some true := by
  intro s
  induction s with
  | zero =>
    intro j k hj h hk
    obtain ⟨k, rfl⟩ : ∃ k', k = k' + 1 := ⟨k - 1, by omega⟩
    have w : wrap64 ((i : Int) + 1) = ((i + 1 : Nat) : Int) := by rw [IntWalk.wrap64_in _ (by omega)]; omega
    rw [pandectref02_Shown.l2, if_neg (by omega), w]
    rcases h with h | ⟨b, h1, h2, _⟩
    · exact h k (by omega)
    · omega
  | succ s ih =>
    intro j k hj h hk
    obtain ⟨k, rfl⟩ : ∃ k', k = k' + 1 := ⟨k - 1, by omega⟩
    have w : wrap64 ((j : Int) + 1) = ((j + 1 : Nat) : Int) := by rw [IntWalk.wrap64_in _ (by omega)]; omega
    have hm : (l.map Dg.sum).length = l.length := List.length_map _
    rw [pandectref02_Shown.l2, if_pos (by omega), if_pos (by omega), if_pos (by omega), if_pos (by omega), if_pos (by omega), sums_getD l i hi, sums_getD l j (by omega), w, if_pos (show (i : Int) < l.length by omega), if_pos (show (j : Int) < l.length by omega), rd_nat, rd_nat]
    by_cases hit : Hit l i j
    · rw [if_pos (by rw [hit.2]), if_neg (fun h => hit.1 ((toList_iff _ _).1 h))]
    · have hnext := ih (j + 1) k (by omega) (by
        rcases h with h | ⟨b, h1, h2, h3⟩
        · exact .inl h
        · refine .inr ⟨b, h1, ?_, h3⟩
          rcases Nat.lt_or_eq_of_le h2 with h4 | h4
          · exact h4
          · subst h4; exact absurd h3 hit) (by omega)
      split
      · rename_i h1
        rw [if_pos]
        · exact hnext
        · rw [toList_iff] at h1 ⊢
          exact Classical.byContradiction fun hne => hit ⟨hne, h1⟩
      · exact hnext

theorem shown1 (l : List ByteArray) (hN : l.length ≤ 200) (a b : Nat) (ha : a < l.length) (hb : b < a) (hit : Hit l a b) : ∀ (r i k : Nat), i + r = a → 203 * r + 203 ≤ k → pandectref02_Shown.l1 k l (l.map Dg.sum) (i : Int) = some true := by
  intro r
  induction r with
  | zero =>
    intro i k hi hk
    obtain ⟨k, rfl⟩ : ∃ k', k = k' + 1 := ⟨k - 1, by omega⟩
    have : i = a := by omega
    subst this
    rw [pandectref02_Shown.l1, if_pos (by omega)]
    exact shown2 l hN i 0 ha i 0 k (by omega) (.inr ⟨b, hb, by omega, hit⟩) (by omega)
  | succ r ih =>
    intro i k hi hk
    obtain ⟨k, rfl⟩ : ∃ k', k = k' + 1 := ⟨k - 1, by omega⟩
    rw [pandectref02_Shown.l1, if_pos (by omega)]
    exact shown2 l hN i (203 * r + 203) (by omega) i 0 k (by omega) (.inl fun k hk => ih (i + 1) k (by omega) hk) (by omega)

theorem shown0 (l : List ByteArray) (hN : l.length ≤ 200) (hs : ∀ x ∈ l, x.size ≤ 400) (k : Nat) (hk : 1000 ≤ k) : ∀ (r i : Nat), i + r = l.length → pandectref02_Shown.l0 (k + r + 1) l ((l.take i).map Dg.sum) (i : Int) = pandectref02_Shown.l1 k l (l.map Dg.sum) 0 := by
  intro r
  induction r with
  | zero =>
    intro i hi
    rw [pandectref02_Shown.l0, if_neg (by omega), show i = l.length by omega, List.take_length]
  | succ r ih =>
    intro i hi
    have hlt : i < l.length := by omega
    have w : wrap64 ((i : Int) + 1) = ((i + 1 : Nat) : Int) := by rw [IntWalk.wrap64_in _ (by omega)]; omega
    have hsz := hs _ (List.getElem_mem hlt)
    rw [show k + (r + 1) + 1 = (k + r + 1) + 1 by omega, pandectref02_Shown.l0, if_pos (by omega), if_pos (by omega), rd_lt l i hlt, ref_sum _ (by omega) _ (by omega), Option.bind_some, if_pos (by rw [List.length_map, List.length_take]; omega), w]
    have e := ih (i + 1) (by omega)
    rw [List.take_succ_eq_append_getElem hlt, List.map_append] at e
    exact e

theorem shown_is (l : List ByteArray) (hN : l.length ≤ 200) (hs : ∀ x ∈ l, x.size ≤ 400) (h : ∃ x ∈ l, ∃ y ∈ l, x ≠ y ∧ Dg.sum x = Dg.sum y) (k : Nat) (hk : 50000 ≤ k) : pandectref02_Shown.f k l = some true := by
  have hh : ∃ a b, a < l.length ∧ b < a ∧ Hit l a b := by
    obtain ⟨x, hx, y, hy, hne, he⟩ := h
    obtain ⟨i, hi, rfl⟩ := List.mem_iff_getElem.1 hx
    obtain ⟨j, hj, rfl⟩ := List.mem_iff_getElem.1 hy
    have gi : l.getD i ByteArray.empty = l[i] := by rw [List.getD_eq_getElem?_getD, List.getElem?_eq_getElem hi]; rfl
    have gj : l.getD j ByteArray.empty = l[j] := by rw [List.getD_eq_getElem?_getD, List.getElem?_eq_getElem hj]; rfl
    rcases Nat.lt_trichotomy i j with h1 | h1 | h1
    · exact ⟨j, i, hj, h1, by unfold Hit; rw [gi, gj]; exact ⟨fun e => hne e.symm, he.symm⟩⟩
    · subst h1; exact absurd rfl hne
    · exact ⟨i, j, hi, h1, by unfold Hit; rw [gi, gj]; exact ⟨hne, he⟩⟩
  obtain ⟨a, b, ha, hb, hit⟩ := hh
  unfold pandectref02_Shown.f
  obtain ⟨k', rfl⟩ : ∃ k', k = k' + l.length + 1 := ⟨k - (l.length + 1), by omega⟩
  refine Eq.trans (shown0 l hN hs k' (by omega) l.length 0 (by omega)) ?_
  exact shown1 l hN a b ha hb hit a 0 k' (by omega) (by omega)

theorem shown_coll (a b l : List ByteArray) (hN : l.length ≤ 200) (hs : ∀ x ∈ l, x.size ≤ 400) (ha : ∀ x ∈ a, x ∈ l) (hb : ∀ x ∈ b, x ∈ l) (h : Tr.Coll a b) (k : Nat) (hk : 50000 ≤ k) : pandectref02_Shown.f k l = some true := by
  obtain ⟨x, hx, y, hy, h1, h2⟩ := h
  exact shown_is l hN hs ⟨x, ha x hx, y, hb y hy, h1, h2⟩ k hk
end Go.Proofs.YteofiiggnegnkaaDoor.P
/- The examples at the head of chapter 02 of the laws. -/
namespace Go.Proofs.YteofiiggnegnkaaDoor.P
open Go.RowKit Go.Proofs.YteofiiggnegnkaaDoor Go.Proofs.YteofiiggnegnkaaDoorW.PrintWords Go.Proofs.YteofiiggnegnkaaDoorW.PrintLast Go.Proofs.YteofiiggnegnkaaDoorW.PrintMore
set_option linter.unusedVariables false
set_option linter.unusedSimpArgs false

theorem piece_lit (s : ByteArray) (n : Nat) (d : List UInt8) (hn : s.size = n) (hd : Lib.itoa n = d) : Dg.piece s = d ++ 58 :: s.data.toList := by
  unfold Dg.piece; rw [hn, hd]
theorem itoa_1 : Lib.itoa ((1 : Nat) : Int) = [49] := by rw [Lib.itoa_nonneg, Lib.decDigits_one (by decide)]; rfl
theorem itoa_4 : Lib.itoa ((4 : Nat) : Int) = [52] := by rw [Lib.itoa_nonneg, Lib.decDigits_one (by decide)]; rfl
theorem itoa_16 : Lib.itoa ((16 : Nat) : Int) = [49, 54] := by rw [Lib.itoa_nonneg, Lib.decDigits_two (by decide) (by decide)]; rfl
theorem list_lit (l : List ByteArray) (bs ds : List UInt8) (h : Dg.joinedL l = bs) (hd : Dg.sumL bs = ds) : Dg.list l = ⟨ds.toArray⟩ := by
  have h1 : Dg.list l = ⟨(Dg.sumL (Dg.joinedL l)).toArray⟩ := rfl
  rw [h1, h, hd]
theorem pc0 : Dg.piece Tr.wLeaf = [52, 58, 108, 101, 97, 102] := piece_lit _ 4 [52] rfl itoa_4
theorem pc1 : Dg.piece (⟨#[97]⟩ : ByteArray) = [49, 58, 97] := piece_lit _ 1 [49] rfl itoa_1
theorem pc2 : Dg.piece (⟨#[98]⟩ : ByteArray) = [49, 58, 98] := piece_lit _ 1 [49] rfl itoa_1
theorem pc3 : Dg.piece (⟨#[99]⟩ : ByteArray) = [49, 58, 99] := piece_lit _ 1 [49] rfl itoa_1
theorem pc4 : Dg.piece Tr.wNode = [52, 58, 110, 111, 100, 101] := piece_lit _ 4 [52] rfl itoa_4
theorem pc5 : Dg.piece (⟨#[99, 57, 50, 49, 52, 102, 50, 52, 99, 48, 52, 56, 48, 53, 101, 52]⟩ : ByteArray) = [49, 54, 58, 99, 57, 50, 49, 52, 102, 50, 52, 99, 48, 52, 56, 48, 53, 101, 52] := piece_lit _ 16 [49, 54] rfl itoa_16
theorem pc6 : Dg.piece (⟨#[101, 97, 51, 102, 55, 52, 48, 55, 52, 101, 51, 48, 101, 57, 54, 56]⟩ : ByteArray) = [49, 54, 58, 101, 97, 51, 102, 55, 52, 48, 55, 52, 101, 51, 48, 101, 57, 54, 56] := piece_lit _ 16 [49, 54] rfl itoa_16
theorem pc7 : Dg.piece (⟨#[100, 97, 98, 51, 101, 102, 97, 51, 53, 56, 54, 57, 54, 100, 102, 48]⟩ : ByteArray) = [49, 54, 58, 100, 97, 98, 51, 101, 102, 97, 51, 53, 56, 54, 57, 54, 100, 102, 48] := piece_lit _ 16 [49, 54] rfl itoa_16
theorem pc8 : Dg.piece (⟨#[56, 50, 101, 48, 99, 50, 54, 48, 52, 51, 52, 101, 51, 48, 102, 50]⟩ : ByteArray) = [49, 54, 58, 56, 50, 101, 48, 99, 50, 54, 48, 52, 51, 52, 101, 51, 48, 102, 50] := piece_lit _ 16 [49, 54] rfl itoa_16
theorem pc9 : Dg.piece (⟨#[53, 56, 56, 53, 56, 100, 102, 51, 49, 48, 54, 51, 101, 97, 51, 51]⟩ : ByteArray) = [49, 54, 58, 53, 56, 56, 53, 56, 100, 102, 51, 49, 48, 54, 51, 101, 97, 51, 51] := piece_lit _ 16 [49, 54] rfl itoa_16
theorem va : Tr.leaf (⟨#[97]⟩ : ByteArray) = (⟨#[99, 57, 50, 49, 52, 102, 50, 52, 99, 48, 52, 56, 48, 53, 101, 52]⟩ : ByteArray) :=
  list_lit [Tr.wLeaf, (⟨#[97]⟩ : ByteArray)] [52, 58, 108, 101, 97, 102, 49, 58, 97] [99, 57, 50, 49, 52, 102, 50, 52, 99, 48, 52, 56, 48, 53, 101, 52] (by simp only [Dg.joinedL, List.flatMap_cons, List.flatMap_nil, pc0, pc1]; rfl) (by decide +kernel)
theorem vb : Tr.leaf (⟨#[98]⟩ : ByteArray) = (⟨#[101, 97, 51, 102, 55, 52, 48, 55, 52, 101, 51, 48, 101, 57, 54, 56]⟩ : ByteArray) :=
  list_lit [Tr.wLeaf, (⟨#[98]⟩ : ByteArray)] [52, 58, 108, 101, 97, 102, 49, 58, 98] [101, 97, 51, 102, 55, 52, 48, 55, 52, 101, 51, 48, 101, 57, 54, 56] (by simp only [Dg.joinedL, List.flatMap_cons, List.flatMap_nil, pc0, pc2]; rfl) (by decide +kernel)
theorem vc : Tr.leaf (⟨#[99]⟩ : ByteArray) = (⟨#[56, 50, 101, 48, 99, 50, 54, 48, 52, 51, 52, 101, 51, 48, 102, 50]⟩ : ByteArray) :=
  list_lit [Tr.wLeaf, (⟨#[99]⟩ : ByteArray)] [52, 58, 108, 101, 97, 102, 49, 58, 99] [56, 50, 101, 48, 99, 50, 54, 48, 52, 51, 52, 101, 51, 48, 102, 50] (by simp only [Dg.joinedL, List.flatMap_cons, List.flatMap_nil, pc0, pc3]; rfl) (by decide +kernel)
theorem vab : Tr.node (⟨#[99, 57, 50, 49, 52, 102, 50, 52, 99, 48, 52, 56, 48, 53, 101, 52]⟩ : ByteArray) (⟨#[101, 97, 51, 102, 55, 52, 48, 55, 52, 101, 51, 48, 101, 57, 54, 56]⟩ : ByteArray) = (⟨#[100, 97, 98, 51, 101, 102, 97, 51, 53, 56, 54, 57, 54, 100, 102, 48]⟩ : ByteArray) :=
  list_lit [Tr.wNode, (⟨#[99, 57, 50, 49, 52, 102, 50, 52, 99, 48, 52, 56, 48, 53, 101, 52]⟩ : ByteArray), (⟨#[101, 97, 51, 102, 55, 52, 48, 55, 52, 101, 51, 48, 101, 57, 54, 56]⟩ : ByteArray)] [52, 58, 110, 111, 100, 101, 49, 54, 58, 99, 57, 50, 49, 52, 102, 50, 52, 99, 48, 52, 56, 48, 53, 101, 52, 49, 54, 58, 101, 97, 51, 102, 55, 52, 48, 55, 52, 101, 51, 48, 101, 57, 54, 56] [100, 97, 98, 51, 101, 102, 97, 51, 53, 56, 54, 57, 54, 100, 102, 48] (by simp only [Dg.joinedL, List.flatMap_cons, List.flatMap_nil, pc4, pc5, pc6]; rfl) (by decide +kernel)
theorem vbb : Tr.node (⟨#[101, 97, 51, 102, 55, 52, 48, 55, 52, 101, 51, 48, 101, 57, 54, 56]⟩ : ByteArray) (⟨#[101, 97, 51, 102, 55, 52, 48, 55, 52, 101, 51, 48, 101, 57, 54, 56]⟩ : ByteArray) = (⟨#[53, 56, 56, 53, 56, 100, 102, 51, 49, 48, 54, 51, 101, 97, 51, 51]⟩ : ByteArray) :=
  list_lit [Tr.wNode, (⟨#[101, 97, 51, 102, 55, 52, 48, 55, 52, 101, 51, 48, 101, 57, 54, 56]⟩ : ByteArray), (⟨#[101, 97, 51, 102, 55, 52, 48, 55, 52, 101, 51, 48, 101, 57, 54, 56]⟩ : ByteArray)] [52, 58, 110, 111, 100, 101, 49, 54, 58, 101, 97, 51, 102, 55, 52, 48, 55, 52, 101, 51, 48, 101, 57, 54, 56, 49, 54, 58, 101, 97, 51, 102, 55, 52, 48, 55, 52, 101, 51, 48, 101, 57, 54, 56] [53, 56, 56, 53, 56, 100, 102, 51, 49, 48, 54, 51, 101, 97, 51, 51] (by simp only [Dg.joinedL, List.flatMap_cons, List.flatMap_nil, pc4, pc6, pc6]; rfl) (by decide +kernel)
theorem vr : Tr.node (⟨#[100, 97, 98, 51, 101, 102, 97, 51, 53, 56, 54, 57, 54, 100, 102, 48]⟩ : ByteArray) (⟨#[56, 50, 101, 48, 99, 50, 54, 48, 52, 51, 52, 101, 51, 48, 102, 50]⟩ : ByteArray) = (⟨#[101, 99, 55, 102, 57, 49, 99, 49, 99, 101, 53, 48, 51, 98, 99, 57]⟩ : ByteArray) :=
  list_lit [Tr.wNode, (⟨#[100, 97, 98, 51, 101, 102, 97, 51, 53, 56, 54, 57, 54, 100, 102, 48]⟩ : ByteArray), (⟨#[56, 50, 101, 48, 99, 50, 54, 48, 52, 51, 52, 101, 51, 48, 102, 50]⟩ : ByteArray)] [52, 58, 110, 111, 100, 101, 49, 54, 58, 100, 97, 98, 51, 101, 102, 97, 51, 53, 56, 54, 57, 54, 100, 102, 48, 49, 54, 58, 56, 50, 101, 48, 99, 50, 54, 48, 52, 51, 52, 101, 51, 48, 102, 50] [101, 99, 55, 102, 57, 49, 99, 49, 99, 101, 53, 48, 51, 98, 99, 57] (by simp only [Dg.joinedL, List.flatMap_cons, List.flatMap_nil, pc4, pc7, pc8]; rfl) (by decide +kernel)
theorem vr1 : Tr.node (⟨#[100, 97, 98, 51, 101, 102, 97, 51, 53, 56, 54, 57, 54, 100, 102, 48]⟩ : ByteArray) (⟨#[101, 97, 51, 102, 55, 52, 48, 55, 52, 101, 51, 48, 101, 57, 54, 56]⟩ : ByteArray) = (⟨#[100, 99, 99, 50, 53, 97, 98, 99, 101, 49, 99, 98, 98, 51, 100, 52]⟩ : ByteArray) :=
  list_lit [Tr.wNode, (⟨#[100, 97, 98, 51, 101, 102, 97, 51, 53, 56, 54, 57, 54, 100, 102, 48]⟩ : ByteArray), (⟨#[101, 97, 51, 102, 55, 52, 48, 55, 52, 101, 51, 48, 101, 57, 54, 56]⟩ : ByteArray)] [52, 58, 110, 111, 100, 101, 49, 54, 58, 100, 97, 98, 51, 101, 102, 97, 51, 53, 56, 54, 57, 54, 100, 102, 48, 49, 54, 58, 101, 97, 51, 102, 55, 52, 48, 55, 52, 101, 51, 48, 101, 57, 54, 56] [100, 99, 99, 50, 53, 97, 98, 99, 101, 49, 99, 98, 98, 51, 100, 52] (by simp only [Dg.joinedL, List.flatMap_cons, List.flatMap_nil, pc4, pc7, pc6]; rfl) (by decide +kernel)
theorem vr2 : Tr.node (⟨#[53, 56, 56, 53, 56, 100, 102, 51, 49, 48, 54, 51, 101, 97, 51, 51]⟩ : ByteArray) (⟨#[56, 50, 101, 48, 99, 50, 54, 48, 52, 51, 52, 101, 51, 48, 102, 50]⟩ : ByteArray) = (⟨#[53, 57, 52, 99, 102, 49, 54, 55, 98, 54, 56, 55, 100, 101, 98, 52]⟩ : ByteArray) :=
  list_lit [Tr.wNode, (⟨#[53, 56, 56, 53, 56, 100, 102, 51, 49, 48, 54, 51, 101, 97, 51, 51]⟩ : ByteArray), (⟨#[56, 50, 101, 48, 99, 50, 54, 48, 52, 51, 52, 101, 51, 48, 102, 50]⟩ : ByteArray)] [52, 58, 110, 111, 100, 101, 49, 54, 58, 53, 56, 56, 53, 56, 100, 102, 51, 49, 48, 54, 51, 101, 97, 51, 51, 49, 54, 58, 56, 50, 101, 48, 99, 50, 54, 48, 52, 51, 52, 101, 51, 48, 102, 50] [53, 57, 52, 99, 102, 49, 54, 55, 98, 54, 56, 55, 100, 101, 98, 52] (by simp only [Dg.joinedL, List.flatMap_cons, List.flatMap_nil, pc4, pc9, pc8]; rfl) (by decide +kernel)

def wa : ByteArray := ⟨#[97]⟩
def wb : ByteArray := ⟨#[98]⟩
def wc : ByteArray := ⟨#[99]⟩
def da : ByteArray := Tr.leaf wa
def db : ByteArray := Tr.leaf wb
def dc : ByteArray := Tr.leaf wc
def dab : ByteArray := Tr.node da db
def dr : ByteArray := Tr.node dab dc
def L3 : List ByteArray := [wa, wb, wc]

theorem da_v : da = (⟨#[99, 57, 50, 49, 52, 102, 50, 52, 99, 48, 52, 56, 48, 53, 101, 52]⟩ : ByteArray) := va
theorem db_v : db = (⟨#[101, 97, 51, 102, 55, 52, 48, 55, 52, 101, 51, 48, 101, 57, 54, 56]⟩ : ByteArray) := vb
theorem dc_v : dc = (⟨#[56, 50, 101, 48, 99, 50, 54, 48, 52, 51, 52, 101, 51, 48, 102, 50]⟩ : ByteArray) := vc
theorem dab_v : dab = (⟨#[100, 97, 98, 51, 101, 102, 97, 51, 53, 56, 54, 57, 54, 100, 102, 48]⟩ : ByteArray) := by unfold dab; rw [da_v, db_v]; exact vab
theorem dr_v : dr = (⟨#[101, 99, 55, 102, 57, 49, 99, 49, 99, 101, 53, 48, 51, 98, 99, 57]⟩ : ByteArray) := by unfold dr; rw [dab_v, dc_v]; exact vr
theorem ne1 : Tr.node dab db ≠ dr := by rw [dr_v, dab_v, db_v, vr1]; decide
theorem ne2 : Tr.node (Tr.node db db) dc ≠ dr := by rw [dr_v, db_v, vbb, dc_v, vr2]; decide

theorem half3 : Tr.half 3 = 2 := by decide
theorem half2 : Tr.half 2 = 1 := by decide

theorem rt1 (x : ByteArray) : Tr.root [x] = Tr.leaf x := Tr.root_one [x] rfl
theorem rt2 (x y : ByteArray) : Tr.root [x, y] = Tr.node (Tr.leaf x) (Tr.leaf y) := by
  rw [Tr.root_node [x, y] (by simp)]
  have h : Tr.half [x, y].length = 1 := half2
  rw [h]
  show Tr.node (Tr.root [x]) (Tr.root [y]) = _
  rw [rt1, rt1]
theorem rt3 : Tr.root L3 = dr := by
  rw [Tr.root_node L3 (by decide)]
  have h : Tr.half L3.length = 2 := half3
  rw [h]
  show Tr.node (Tr.root [wa, wb]) (Tr.root [wc]) = _
  rw [rt1, rt2]; rfl

theorem pt2 : Tr.path L3 2 = [dab] := by
  have h : Tr.half L3.length = 2 := half3
  rw [Tr.path_right L3 2 (by decide) (by rw [h]; decide), h]
  show Tr.path [wc] 0 ++ [Tr.root [wa, wb]] = _
  rw [Tr.path_one _ _ (by decide), rt2]; rfl
theorem pt0 : Tr.path L3 0 = [db, dc] := by
  have h : Tr.half L3.length = 2 := half3
  rw [Tr.path_left L3 0 (by decide) (by rw [h]; decide), h]
  show Tr.path [wa, wb] 0 ++ [Tr.root [wc]] = _
  have h2 : Tr.half [wa, wb].length = 1 := half2
  rw [Tr.path_left [wa, wb] 0 (by decide) (by rw [h2]; decide), h2]
  show (Tr.path [wa] 0 ++ [Tr.root [wb]]) ++ [Tr.root [wc]] = _
  rw [Tr.path_one _ _ (by decide), rt1, rt1]; rfl
theorem lk2 : linkOf L3 2 = [dc] := by
  have h : Tr.half L3.length = 2 := half3
  unfold linkOf
  rw [if_neg (by decide), Tr.link_left L3 2 true (by decide) (by decide) (by rw [h]; decide), h]
  show Tr.link [wa, wb] 2 true ++ [Tr.root [wc]] = _
  rw [Tr.link_all [wa, wb] 2 true rfl, rt1]; rfl
theorem lk1 : Tr.link L3 1 true = [db, dc] := by
  have h : Tr.half L3.length = 2 := half3
  rw [Tr.link_left L3 1 true (by decide) (by decide) (by rw [h]; decide), h]
  show Tr.link [wa, wb] 1 true ++ [Tr.root [wc]] = _
  have h2 : Tr.half [wa, wb].length = 1 := half2
  rw [Tr.link_left [wa, wb] 1 true (by decide) (by decide) (by rw [h2]; decide), h2]
  show (Tr.link [wa] 1 true ++ [Tr.root [wb]]) ++ [Tr.root [wc]] = _
  rw [Tr.link_all [wa] 1 true rfl, rt1, rt1, rt1]; rfl
theorem lk1' : linkOf L3 1 = [db, dc] := by unfold linkOf; rw [if_neg (by decide)]; exact lk1

theorem pr (l : List ByteArray) (h : ∀ x ∈ l, Dg.isD x = true) : Tr.proper l = true := List.all_eq_true.2 h
theorem isD_da : Dg.isD da = true := Dg.isD_list _
theorem isD_db : Dg.isD db = true := Dg.isD_list _
theorem isD_dc : Dg.isD dc = true := Dg.isD_list _
theorem isD_dab : Dg.isD dab = true := Dg.isD_list _
theorem isD_dr : Dg.isD dr = true := Dg.isD_list _

theorem ck_c : Tr.check dr 3 2 wc [dab] = true := by
  have e := Tr.check_eq dr 3 2 wc [dab] (by decide) (by decide) (pr _ (by simp [isD_dab]))
  have h1 : [dab].length = Tr.len 3 2 := by
    have := Tr.path_length L3 2
    rw [pt2] at this; exact this
  have h2 : Tr.up 3 2 (Tr.leaf wc) [dab] = dr := by
    have := Tr.up_path L3 2 (by decide)
    rw [pt2, rt3] at this; exact this
  rw [decide_eq_true h1, decide_eq_true h2] at e
  exact e
theorem ck_b : Tr.check dr 3 2 wb [dab] = false := by
  have e := Tr.check_eq dr 3 2 wb [dab] (by decide) (by decide) (pr _ (by simp [isD_dab]))
  have h2 : Tr.up 3 2 (Tr.leaf wb) [dab] = Tr.node dab db := by
    rw [Tr.up_right 3 2 _ _ (by decide) (by rw [half3]; decide), half3, Tr.up_one _ _ _ _ (by decide)]; rfl
  rw [h2, decide_eq_false ne1, Bool.and_false] at e
  exact e
theorem ex_a : Tr.extends_ da 1 dr 3 [db, dc] = true := by
  have e := Tr.extends_eq da 1 dr 3 [db, dc] (by decide) (by decide) (by decide) (pr _ (by simp [isD_db, isD_dc])) (pr _ (by simp [isD_da, isD_dr]))
  have h1 : [db, dc].length = Tr.long 3 1 true := by
    have := Tr.link_length L3 1 true (by decide) (by decide)
    rw [lk1] at this; exact this
  have hr : Tr.root (L3.take 1) = da := rt1 wa
  have h2 := Tr.both_link L3 1 true da (by decide) (by decide) (by decide) (fun _ => hr.symm)
  rw [lk1, hr, rt3] at h2
  have h3 : Tr.both 3 1 true da [db, dc] = (da, dr) := h2
  rw [h3, decide_eq_true h1, decide_eq_true rfl, decide_eq_true rfl] at e
  exact e
theorem ex_b : Tr.extends_ db 1 dr 3 [db, dc] = false := by
  have e := Tr.extends_eq db 1 dr 3 [db, dc] (by decide) (by decide) (by decide) (pr _ (by simp [isD_db, isD_dc])) (pr _ (by simp [isD_db, isD_dr]))
  have h2 : (Tr.both 3 1 true db [db, dc]).2 = Tr.node (Tr.node db db) dc := by
    rw [Tr.both_left 3 1 true db _ (by decide) (by decide) (by rw [half3]; decide), half3]
    show Tr.node (Tr.both 2 1 true db [db]).2 dc = _
    rw [Tr.both_left 2 1 true db _ (by decide) (by decide) (by rw [half2]; decide), half2, Tr.both_all _ _ _ _ _ rfl]
    rfl
  rw [h2, decide_eq_false ne2, Bool.and_false, Bool.and_false] at e
  exact e

theorem small_L3 : Small L3 := .cons (by decide) (.cons (by decide) (.cons (by decide) .nil))

theorem head_is (k : Nat) (hk : 3000 ≤ k) : pandectlaw02_head.f k = some true := by
  obtain ⟨k, rfl⟩ : ∃ k', k = k' + 1 + 1 := ⟨k - 2, by omega⟩
  have ra : ∀ k, 1500 ≤ k → tree_Root.f k [(⟨#[97]⟩ : ByteArray)] = some da := fun k hk => by rw [root_is _ k (by simp) (.cons (by decide) .nil) (by simp; omega), rt1]; rfl
  have rb : ∀ k, 1500 ≤ k → tree_Root.f k [(⟨#[98]⟩ : ByteArray)] = some db := fun k hk => by rw [root_is _ k (by simp) (.cons (by decide) .nil) (by simp; omega), rt1]; rfl
  have rc : ∀ k, 1500 ≤ k → tree_Root.f k [(⟨#[99]⟩ : ByteArray)] = some dc := fun k hk => by rw [root_is _ k (by simp) (.cons (by decide) .nil) (by simp; omega), rt1]; rfl
  have r0 : ∀ k, 1500 ≤ k → tree_Root.f k [] = some Tr.empty := fun k hk => by rw [root_is _ k (by simp) .nil (by simp; omega), Tr.root_zero [] rfl]
  have r3 : ∀ k, 1500 ≤ k → tree_Root.f k L3 = some dr := fun k hk => by rw [root_is _ k (by decide) small_L3 (by show 1400 + 3 ≤ k; omega), rt3]
  have p2 : ∀ k, 1700 ≤ k → tree_Path.f k L3 2 = some ([dab], 0) := fun k hk => by have := path_is L3 2 (by decide) small_L3 (by decide) k hk; rw [pt2] at this; exact this
  have p0 : ∀ k, 1700 ≤ k → tree_Path.f k L3 0 = some ([db, dc], 0) := fun k hk => by have := path_is L3 0 (by decide) small_L3 (by decide) k hk; rw [pt0] at this; exact this
  have p3 : ∀ k, 1700 ≤ k → tree_Path.f k L3 3 = some ([], 1) := fun k hk => path_bad L3 3 (.inr (by decide)) k (by omega)
  have l2 : ∀ k, 1700 ≤ k → tree_Link.f k L3 2 = some ([dc], 0) := fun k hk => by have := link_is L3 2 (by decide) small_L3 (by decide) k hk; rw [lk2] at this; exact this
  have l1 : ∀ k, 1700 ≤ k → tree_Link.f k L3 1 = some ([db, dc], 0) := fun k hk => by have := link_is L3 1 (by decide) small_L3 (by decide) k hk; rw [lk1'] at this; exact this
  have szd : ∀ x, Dg.isD x = true → x.size ≤ 100 := fun x h => by rw [isD_size h]; omega
  have dn : digest_List.f [(⟨#[110, 111, 100, 101]⟩ : ByteArray), da, db] = some dab := by
    rw [dig_list3 _ (by simp) (.cons (by decide) (.cons (szd _ isD_da) (.cons (szd _ isD_db) .nil)))]; rfl
  have dn2 : digest_List.f [(⟨#[110, 111, 100, 101]⟩ : ByteArray), dab, dc] = some dr := by
    rw [dig_list3 _ (by simp) (.cons (by decide) (.cons (szd _ isD_dab) (.cons (szd _ isD_dc) .nil)))]; rfl
  have de : digest_List.f [(⟨#[101, 109, 112, 116, 121]⟩ : ByteArray)] = some Tr.empty := by
    rw [dig_list3 _ (by simp) (.cons (by decide) .nil)]; rfl
  have dl : digest_List.f [(⟨#[108, 101, 97, 102]⟩ : ByteArray), (⟨#[97]⟩ : ByteArray)] = some da := by
    rw [dig_list3 _ (by simp) (.cons (by decide) (.cons (by decide) .nil))]; rfl
  have hL : ([(⟨#[97]⟩ : ByteArray), (⟨#[98]⟩ : ByteArray), (⟨#[99]⟩ : ByteArray)] : List ByteArray) = L3 := rfl
  have sm : ∀ (a b : List ByteArray) k, a.length ≤ 1000 → 1100 ≤ k → a = b → pandectref01_Same.f k a b = some true := fun a b k h1 h2 h3 => by rw [same_is a b h1 k h2, decide_eq_true h3]
  unfold pandectlaw02_head.f
  rw [ra _ (by omega), Option.bind_some, rb _ (by omega), Option.bind_some, rc _ (by omega), Option.bind_some, hL, Option.bind_some, p2 _ (by omega), Option.bind_some, p0 _ (by omega), Option.bind_some, l2 _ (by omega), Option.bind_some,
    l1 _ (by omega), Option.bind_some, p3 _ (by omega), Option.bind_some, dn, Option.bind_some, r0 _ (by omega), Option.bind_some, de, Option.bind_some, if_pos rfl, dl, Option.bind_some, if_pos rfl, r3 _ (by omega), Option.bind_some, dn2, Option.bind_some]
  rw [pandectlaw02_head.j0, if_pos rfl, sm _ _ _ (by simp) (by omega) rfl, Option.bind_some, if_pos rfl, if_pos rfl, sm _ _ _ (by simp) (by omega) rfl, Option.bind_some, if_pos rfl, if_pos rfl, sm _ _ _ (by simp) (by omega) rfl, Option.bind_some, if_pos rfl, if_pos rfl, Option.bind_some, if_pos rfl]
  have c1 : tree_Check.f dr 3 2 (⟨#[99]⟩ : ByteArray) [dab] = some true := by rw [check_is _ _ _ _ _ (by simp) (by decide)]; exact congrArg some ck_c
  have c2 : tree_Check.f dr 3 2 (⟨#[98]⟩ : ByteArray) [dab] = some false := by rw [check_is _ _ _ _ _ (by simp) (by decide)]; exact congrArg some ck_b
  have e1 : tree_Extends.f da 1 dr 3 [db, dc] = some true := by rw [extends_is _ _ _ _ _ (by simp), ex_a]
  have e2 : tree_Extends.f db 1 dr 3 [db, dc] = some false := by rw [extends_is _ _ _ _ _ (by simp), ex_b]
  rw [pandectlaw02_head.j1, if_pos (beq_iff_eq.mpr rfl), if_pos (by decide), r3 _ (by omega), Option.bind_some, c1, Option.bind_some, if_pos rfl, Option.bind_some, c2, Option.bind_some, if_neg (by decide), Option.bind_some, e1, Option.bind_some, if_pos rfl, Option.bind_some, e2]
  rfl
end Go.Proofs.YteofiiggnegnkaaDoor.P
/- The six laws of chapter 02, as the print has them, answer true. -/
namespace Go.Proofs.YteofiiggnegnkaaDoor.P
open Go.RowKit Go.Proofs.YteofiiggnegnkaaDoor Go.Proofs.YteofiiggnegnkaaDoorW.PrintWords Go.Proofs.YteofiiggnegnkaaDoorW.PrintLast Go.Proofs.YteofiiggnegnkaaDoorW.PrintMore
set_option linter.unusedVariables false
set_option linter.unusedSimpArgs false

theorem some_bind {α β : Type} (a : α) (f : α → Option β) : (some a).bind f = f a := rfl

/-! ### P2.1 -/

/-! ### P2.2 -/

/-! ### P2.3 -/

/-! ### P2.4 -/

end Go.Proofs.YteofiiggnegnkaaDoor.P
/- The laws of chapter 02 about links, as the print has them, answer true. -/
namespace Go.Proofs.YteofiiggnegnkaaDoor.P
open Go.RowKit Go.Proofs.YteofiiggnegnkaaDoor Go.Proofs.YteofiiggnegnkaaDoorW.PrintWords Go.Proofs.YteofiiggnegnkaaDoorW.PrintLast Go.Proofs.YteofiiggnegnkaaDoorW.PrintMore
set_option linter.unusedVariables false
set_option linter.unusedSimpArgs false

/-! ### P2.5 -/

theorem proper2 (a b : ByteArray) (ha : Dg.isD a = true) (hb : Dg.isD b = true) : Tr.proper [a, b] = true := pr _ (fun x hx => by
  rcases List.mem_cons.1 hx with h | h
  · rw [h]; exact ha
  · rw [List.mem_singleton.1 h]; exact hb)

/-! ### P2.6 -/

theorem law_continues (a l p : List ByteArray) : pandectlaw02_TreeContinues.f 1200000 a l p = some true := by
  have out : pandectlaw02_TreeContinues.j0 1200000 a l p true true = some true := by
    rw [show 1200000 = 1199999 + 1 from rfl, pandectlaw02_TreeContinues.j0, if_pos rfl]
  have out1 : pandectlaw02_TreeContinues.j1 1199999 a l p true true = some true := by
    rw [show 1199999 = 1199998 + 1 from rfl, pandectlaw02_TreeContinues.j1, if_pos rfl]
  unfold pandectlaw02_TreeContinues.f
  obtain ⟨b1, e1, f1⟩ := few_is a 1200000 (by omega)
  obtain ⟨b2, e2, f2⟩ := few_is l 1200000 (by omega)
  obtain ⟨b3, e3, f3⟩ := few_is p 1200000 (by omega)
  rw [head_is _ (by omega), some_bind, e1, some_bind]
  by_cases h1 : b1 = true
  · rw [if_pos h1, e2, some_bind]
    by_cases h2 : b2 = true
    · rw [if_pos h2, e3, some_bind]
      by_cases h3 : b3 = true
      · rw [if_pos h3]
        by_cases hl : a.length ≤ l.length
        · rw [decide_eq_false (show ¬ (a.length : Int) > (l.length : Int) by omega)]
          obtain ⟨ha, has⟩ := f1.1 h1
          obtain ⟨h20, hs⟩ := f2.1 h2
          obtain ⟨hp, hps⟩ := f3.1 h3
          rw [show 1200000 = 1199999 + 1 from rfl, pandectlaw02_TreeContinues.j0, if_neg (by decide), root_is a _ ha has (by omega), some_bind, root_is l _ h20 hs (by omega), some_bind, extends_is _ _ _ _ _ (by omega), some_bind]
          cases hx : Tr.extends_ (Tr.root a) a.length (Tr.root l) l.length p with
          | false => rw [if_neg (by decide), out1]
          | true =>
            rw [if_pos rfl, if_pos (by omega), if_pos (by omega)]
            simp only [Int.toNat_natCast]
            rw [same_is a _ (by omega) _ (by omega), some_bind]
            by_cases he : a = l.take a.length
            · rw [decide_eq_true he, out1]
            · rw [decide_eq_false he]
              have h0 : a.length ≠ 0 := fun h => he (by rw [h, List.take_zero]; exact List.eq_nil_of_length_eq_zero h)
              have hpr : Tr.proper p = true := by
                cases hpr : Tr.proper p with
                | true => rfl
                | false => rw [Tr.extends_false _ _ _ _ _ (.inr (.inr (.inr (.inl hpr))))] at hx; cases hx
              rw [Tr.extends_eq _ _ _ _ _ (by omega) hl (by omega) hpr (proper2 _ _ (Tr.isD_root _) (Tr.isD_root _)), Bool.and_eq_true, Bool.and_eq_true, decide_eq_true_eq, decide_eq_true_eq, decide_eq_true_eq] at hx
              obtain ⟨c1, c2, c3⟩ := hx
              have hlk : (linkOf l a.length).length = p.length := by
                unfold linkOf
                rw [if_neg h0, Tr.link_length l _ true (by omega) hl, c1]
              have ht20 : (l.take a.length).length ≤ 20 := by rw [List.length_take]; omega
              have ta := texts_ok a has
              have tl := texts_ok l hs
              have tt := texts_ok (l.take a.length) (hs.take _)
              have tk := linkTexts_ok l.length a.length true (Tr.root a) p (by omega) hl (by rw [root_size]; omega) hps
              have la := texts_le a ha has
              have ll := texts_le l h20 hs
              have lt := texts_le (l.take a.length) ht20 (hs.take _)
              have hz : ((a.length : Int) == 0) = false := beq_eq_false_iff_ne.mpr (by omega)
              rw [show 1199999 = 1199998 + 1 from rfl, pandectlaw02_TreeContinues.j1, if_neg (by decide), link_is l _ h20 hs hl _ (by omega), some_bind, if_pos rfl, if_pos (by rw [hlk]), hz, show 1199998 = 1199997 + 1 from rfl, pandectlaw02_TreeContinues.j2, if_neg (by decide),
                ref_texts a _ ha has (by omega), some_bind, ref_texts l _ h20 hs (by omega), some_bind, if_pos (by omega), some_bind, if_pos (by omega), if_pos (by omega)]
              simp only [Int.toNat_natCast]
              rw [ref_texts _ _ ht20 (hs.take _) (by omega), some_bind, if_pos (by rw [List.length_append]; omega), some_bind, if_pos True.intro, root_is a _ ha has (by omega), some_bind,
                ref_linkTexts l.length a.length _ true (Tr.root a) p (by omega) (by omega) hl (by rw [root_size]; omega) hps (by omega) c1.symm (by omega), some_bind, if_pos (by rw [List.length_append, List.length_append]; omega)]
              have hall : ∀ x ∈ Tr.texts a ++ Tr.texts l ++ Tr.texts (l.take a.length) ++ Tr.linkTexts l.length a.length true (Tr.root a) p, x.size ≤ 400 := fun x hx => by
                rcases List.mem_append.1 hx with h | h
                · rcases List.mem_append.1 h with h | h
                  · rcases List.mem_append.1 h with h | h
                    · exact ta.1 x h
                    · exact tl.1 x h
                  · exact tt.1 x h
                · exact tk.1 x h
              have hlen : (Tr.texts a ++ Tr.texts l ++ Tr.texts (l.take a.length) ++ Tr.linkTexts l.length a.length true (Tr.root a) p).length ≤ 200 := by
                rw [List.length_append, List.length_append, List.length_append]; omega
              rcases Tr.continues l a.length true (Tr.root a) p h20 (by omega) hl c3 with hc | hr
              · rw [shown_coll _ _ _ hlen hall (fun x hx => by simp [hx]) (fun x hx => by simp [hx]) hc _ (by omega)]
                rfl
              · rw [c2] at hr
                rw [shown_coll _ _ _ hlen hall (fun x hx => by simp [hx]) (fun x hx => by simp [hx]) (Tr.roots a (l.take a.length) (by rw [List.length_take]; omega) he hr) _ (by omega)]
                rfl
        · rw [decide_eq_true (show (a.length : Int) > (l.length : Int) by omega), out]
      · rw [if_neg h3, out]
    · rw [if_neg h2, out]
  · rw [if_neg h1, out]
end Go.Proofs.YteofiiggnegnkaaDoor.P
