import Derived.Test.YtfhdknjccmcgdaaGreatDoorKPx0
import Derived.Test.YtfhdknjccmcgdaaGreatDoorKPx1
import Derived.Test.YtfhdknjccmcgdaaGreatDoorKPx2
import Derived.Test.YtfhdknjccmcgdaaGreatDoorKMPx3
import Derived.Test.YtfhdknjccmcgdaaGreatDoorKMPx4
import Derived.Test.YtfhdknjccmcgdaaGreatDoorKMPx5
import Derived.Test.YtfhdknjccmcgdaaGreatDoorKMPx6
import Derived.Test.YtfhdknjccmcgdaaGreatDoorKMPx7
import Derived.Test.YtfhdknjccmcgdaaGreatDoorKMPx8
import Derived.Test.YtfhdknjccmcgdaaGreatDoorKMPx9
import Derived.Test.YtfhdknjccmcgdaaGreatDoorKD
import Derived.Test.YtfhdknjccmcgdaaGreatDoorKTa
import Derived.Test.YtfhdknjccmcgdaaGreatDoorTie
import Derived.ProofKit
import Derived.OpenShut
import Derived.ShutString
import Derived.LaidMore
import Derived.LaidSub
import Derived.Lay
import Derived.SevenTiedAt
import Derived.Stop.Joined
import Derived.SliceStrings
import Derived.Lib.SmallJoins
import Derived.Test.YtfhdknjccmcgdaaGreatDoorKS0
import Derived.Test.YtfhdknjccmcgdaaGreatDoorKSc
set_option linter.unusedVariables false
set_option linter.unusedSimpArgs false
/- What every row of the seat needs: the listed variables, the table that strconv.Itoa reads, a slice of strings as an argument. -/
namespace Go.Proofs.YtfhdknjccmcgdaaGreatDoor.P
open Go.ChangeShapes Go.WideShapes Go.ChangeAt Go.RowKit
open Go.Proofs.YtfhdknjccmcgdaaGreatDoor Go.Proofs.YtfhdknjccmcgdaaGreatDoorW.PrintWords Go.Proofs.YtfhdknjccmcgdaaGreatDoorW.PrintLast Go.Proofs.YtfhdknjccmcgdaaGreatDoorW.PrintMore
set_option linter.unusedVariables false

theorem own : ownKnob Tryz.prog.godebug = none := by kernel_rfl
theorem laidOut : laidOutB Tryz.prog = true := by kernel_rfl
def laid : List (String × DataW Unit) := [("math/bits.deBruijn32tab", Rows.laid_math_bits_deBruijn32tab), ("math/bits.deBruijn64tab", Rows.laid_math_bits_deBruijn64tab), ("internal/strconv.uint64pow10", Rows.laid_internal_strconv_uint64pow10), ("unicode/utf8.acceptRanges", Rows.laid_unicode_utf8_acceptRanges), ("unicode/utf8.first", Rows.laid_unicode_utf8_first)]

theorem tabs_of_laid {W : World} (h : laidMetH Tryz.prog laid W) : Tabs W := by
  have h2 := h.filter (fun x => x.1 == "internal/strconv.uint64pow10")
  have e : laid.filter (fun x => x.1 == "internal/strconv.uint64pow10") = [("internal/strconv.uint64pow10", Lib.tabData .u64 Lib.pow10Tab)] := by kernel_rfl
  rw [e, MakeChecks.laidMetH_plain _ _ _ (by kernel_rfl)] at h2
  exact Lib.tabIs_of_head tabs_global (t := 115) (e := 82) (n := 20) (by kernel_rfl) Tryz.underlying115 Tryz.underlying82 (by kernel_rfl) (by kernel_rfl) h2

/-- The witness: a start in which the listed variables read as the row says. -/
theorem laid_met (os : Os) (args : Array Value) : laidMetH Tryz.prog laid ((World.laidAll Tryz.prog os laid).forCall (fun _ _ => 0) ⟨#[], args, []⟩).memory := by
  rw [MakeChecks.laidMetH_plain _ _ _ (by kernel_rfl)]
  exact laidMet_laidAll _ (by kernel_rfl) (by kernel_rfl)
theorem laid_shaped (os : Os) (args : Array Value) : ((World.laidAll Tryz.prog os laid).forCall (fun _ _ => 0) ⟨#[], args, []⟩).Shaped Tryz.prog :=
  World.shaped_of_ZipB (by kernel_rfl) (by kernel_rfl)

/-- A slice of strings that came in reads as a list. -/
theorem strings_in {H : Type} {enc : TypeId × Value → H} {W : World} {spare : Nat → Bool} {held : Bool} {fuel : Nat} {a : Option Addr} {n c : Nat} {x : DataW H × List MemPlace} (hf : DataW.trod enc Tryz.prog W 0 spare held fuel 22 [.slice a n c] = some x) :
    ∃ l : List ByteArray, l.length = n ∧ n ≤ c ∧ Kd.C Kd.string W a n l := by
  rcases open_strings Tryz.underlying22 Tryz.underlying9 (by kernel_rfl) hf with ⟨hcs, hx⟩ | ⟨x, len', cap', ss, hcs, _, hl, hm, hz, hx, hcell, _⟩
  · simp only [List.cons.injEq, Value.slice.injEq, and_true] at hcs
    obtain ⟨rfl, rfl, rfl⟩ := hcs
    exact ⟨[], rfl, Nat.le_refl _, Kd.C_of_reads (d := ByteArray.empty) (h1 := fun _ => rfl) ⟨rfl, by decide, fun hn => by simp at hn⟩⟩
  · simp only [List.cons.injEq, Value.slice.injEq, and_true] at hcs
    obtain ⟨rfl, rfl, rfl⟩ := hcs
    have hz' : n ≤ ss.length := by rw [hz]; split <;> omega
    have hlen : (ss.take n).length = n := by rw [List.length_take]; omega
    have hm' : c ≤ 9223372036854775807 := hm
    refine ⟨ss.take n, hlen, hl, Kd.C_of_reads (d := ByteArray.empty) (h1 := fun _ => rfl) ⟨hlen, by omega, fun hn => ⟨x, rfl, fun j hj => ?_⟩⟩⟩
    rw [hcell j (by omega)]
    simp only [List.getD_eq_getElem?_getD, List.getElem?_take_of_lt hj]
end Go.Proofs.YtfhdknjccmcgdaaGreatDoor.P
/- The reference's digest, as the print has it, computes the plain digest. -/
namespace Go.Proofs.YtfhdknjccmcgdaaGreatDoor.P
open Go.RowKit Go.Proofs.YtfhdknjccmcgdaaGreatDoor Go.Proofs.YtfhdknjccmcgdaaGreatDoorW.PrintWords Go.Proofs.YtfhdknjccmcgdaaGreatDoorW.PrintLast Go.Proofs.YtfhdknjccmcgdaaGreatDoorW.PrintMore
set_option linter.unusedVariables false
set_option linter.unusedSimpArgs false

theorem tmod_nat (a b : Nat) : Int.tmod (a : Int) (b : Int) = ((a % b : Nat) : Int) := by
  rw [Int.tmod_eq_emod_of_nonneg (by omega)]; omega
theorem tdiv_nat (a b : Nat) : Int.tdiv (a : Int) (b : Int) = ((a / b : Nat) : Int) := by
  rw [Int.tdiv_eq_ediv_of_nonneg (by omega)]; omega
theorem wrap_nat (a : Nat) (h : a < 18446744073709551616) : IntKind.u64.wrap (a : Int) = (a : Int) := by
  rw [IntKind.wrap_u64]; omega

theorem ref_mix (x : Nat) : pandectref01_mix.f (x : Int) = some ((Dg.mix x : Nat) : Int) := by
  unfold pandectref01_mix.f
  simp only [IntKind.wrap_u64]
  have h1 : ((x : Int) * 6364136223846793005) % 18446744073709551616 = ((x * 6364136223846793005 % 18446744073709551616 : Nat) : Int) := by omega
  rw [h1]
  generalize ha : x * 6364136223846793005 % 18446744073709551616 = a
  have ha1 : a < 18446744073709551616 := by omega
  have h2 : (a : Int) / 2147483648 = ((a / 2147483648 : Nat) : Int) := by omega
  rw [h2, Dg.xor_u64 a _ ha1 (by omega)]
  generalize hb : a ^^^ (a / 2147483648) = b
  have h3 : ((b : Int) * 3202034522624059733) % 18446744073709551616 = ((b * 3202034522624059733 % 18446744073709551616 : Nat) : Int) := by omega
  rw [h3]
  generalize hc : b * 3202034522624059733 % 18446744073709551616 = c
  have hc1 : c < 18446744073709551616 := by omega
  have h4 : (c : Int) / 1073741824 = ((c / 1073741824 : Nat) : Int) := by omega
  rw [h4, Dg.xor_u64 c _ hc1 (by omega)]
  congr 2
  subst hc; subst hb; subst ha
  rfl

theorem bt_at0 (s : ByteArray) (i : Nat) : bt s (i : Int) = ((Dg.at0 s.data.toList i : Nat) : Int) := by
  unfold bt Dg.at0
  simp only [Int.toNat_natCast]
  split
  · rename_i h
    have h' : i < s.data.toList.length := h
    rw [List.getD_eq_getElem?_getD, List.getElem?_eq_getElem h']
    rfl
  · rename_i h
    rw [List.getD_eq_getElem?_getD, List.getElem?_eq_none (by rw [data_length]; omega)]
    rfl

theorem at0_drop (l : List UInt8) (a j : Nat) : Dg.at0 (l.drop a) j = Dg.at0 l (a + j) := by
  unfold Dg.at0
  rw [List.getD_eq_getElem?_getD, List.getD_eq_getElem?_getD, List.getElem?_drop]

theorem ref_sum1 (s : ByteArray) (hs : s.size ≤ 1000000000000) (st q k : Nat) (hq : 8 * q ≤ s.size) : ∀ r j : Nat, j + r = 8 →
    pandectref01_Sum.l1 (k + r + 1) s (st : Int) ((8 * q : Nat) : Int) ((Dg.upto (s.data.toList.drop (8 * q)) j : Nat) : Int) ((8 * q + j : Nat) : Int) =
      (pandectref01_mix.f (Go.bits .xor .u64 (st : Int) ((Dg.upto (s.data.toList.drop (8 * q)) 8 : Nat) : Int))).bind fun t => pandectref01_Sum.l0 k s t ((8 * (q + 1) : Nat) : Int) := by
  intro r
  have hw : wrap64 (((8 * q : Nat) : Int) + 8) = ((8 * (q + 1) : Nat) : Int) := by rw [IntWalk.wrap64_in _ (by omega)]; omega
  induction r with
  | zero =>
    intro j hj
    have : j = 8 := by omega
    subst this
    rw [Nat.add_zero, pandectref01_Sum.l1, hw, if_neg (by omega)]
  | succ r ih =>
    intro j hj
    have hu := Dg.upto_lt (s.data.toList.drop (8 * q)) j
    have hp : 256 ^ j ≤ 256 ^ 7 := Nat.pow_le_pow_right (by decide) (by omega)
    have hb := Dg.at0_lt s.data.toList (8 * q + j)
    have e1 := ih (j + 1) (by omega)
    have hlast : wrap64 (((8 * q + j : Nat) : Int) + 1) = ((8 * q + (j + 1) : Nat) : Int) := by rw [IntWalk.wrap64_in _ (by omega)]; omega
    have hm : (256 : Nat) ^ 7 = 72057594037927936 := by decide
    have hU : Dg.upto (s.data.toList.drop (8 * q)) (j + 1) = Dg.upto (s.data.toList.drop (8 * q)) j * 256 + Dg.at0 s.data.toList (8 * q + j) := by
      rw [Dg.upto, at0_drop]
    rw [hU] at e1
    generalize hU2 : Dg.upto (s.data.toList.drop (8 * q)) j = U at e1 hu ⊢
    have hw1 : IntKind.u64.wrap ((U : Int) * 256) = ((U * 256 : Nat) : Int) := by rw [IntKind.wrap_u64]; omega
    rw [show k + (r + 1) + 1 = (k + r + 1) + 1 by omega, pandectref01_Sum.l1, hw, if_pos (by omega), hlast, hw1, bt_at0]
    by_cases hi : 8 * q + j < s.size
    · rw [if_pos (by omega), if_pos (by omega), wrap_nat _ (by omega)]
      have : ((U * 256 : Nat) : Int) + ((Dg.at0 s.data.toList (8 * q + j) : Nat) : Int) = ((U * 256 + Dg.at0 s.data.toList (8 * q + j) : Nat) : Int) := by omega
      rw [this, wrap_nat _ (by omega), e1]
    · rw [if_neg (by omega)]
      have h0 : Dg.at0 s.data.toList (8 * q + j) = 0 := by
        unfold Dg.at0
        rw [List.getD_eq_getElem?_getD, List.getElem?_eq_none (by rw [data_length]; omega)]
        rfl
      rw [h0, Nat.add_zero (U * 256)] at e1
      exact e1

theorem ref_sum0 (s : ByteArray) (hs : s.size ≤ 1000000000000) (k : Nat) : ∀ n q st : Nat, st < 18446744073709551616 → q + n = s.size / 8 →
    pandectref01_Sum.l0 (k + 10 * (n + 1) + 1) s (st : Int) ((8 * q : Nat) : Int) = pandectref01_Sum.l2 k ((Dg.fin n st (s.data.toList.drop (8 * q)) : Nat) : Int) (⟨#[]⟩ : ByteArray) 0 := by
  intro n
  induction n with
  | zero =>
    intro q st hst hq
    rw [show k + 10 * (0 + 1) + 1 = ((k + 1) + 8 + 1) + 1 by omega, pandectref01_Sum.l0, if_pos (by omega)]
    have e := ref_sum1 s hs st q (k + 1) (by omega) 8 0 rfl
    have hU := Dg.upto_lt (s.data.toList.drop (8 * q)) 8
    simp only [Dg.upto, Nat.add_zero] at e
    refine Eq.trans e ?_
    rw [show Dg.fin 0 st (s.data.toList.drop (8 * q)) = Dg.mix (st ^^^ Dg.blk 0 8 (s.data.toList.drop (8 * q))) from rfl, Dg.blk_eq]
    simp only [Dg.upto] at hU ⊢
    rw [Dg.xor_u64 st _ hst (by omega), ref_mix, Option.bind_some, pandectref01_Sum.l0, if_neg (by omega)]
  | succ n ih =>
    intro q st hst hq
    rw [show k + 10 * (n + 1 + 1) + 1 = ((k + 10 * (n + 1) + 1) + 8 + 1) + 1 by omega, pandectref01_Sum.l0, if_pos (by omega)]
    have e := ref_sum1 s hs st q (k + 10 * (n + 1) + 1) (by omega) 8 0 rfl
    have hU := Dg.upto_lt (s.data.toList.drop (8 * q)) 8
    simp only [Dg.upto, Nat.add_zero] at e
    refine Eq.trans e ?_
    rw [show Dg.fin (n + 1) st (s.data.toList.drop (8 * q)) = Dg.fin n (Dg.mix (st ^^^ Dg.blk 0 8 (s.data.toList.drop (8 * q)))) ((s.data.toList.drop (8 * q)).drop 8) from rfl, Dg.blk_eq, List.drop_drop]
    simp only [Dg.upto] at hU ⊢
    rw [Dg.xor_u64 st _ hst (by omega), ref_mix, Option.bind_some]
    exact ih (q + 1) _ (Dg.mix_lt _) (by omega)

theorem ref_hexdig : ∀ d : Nat, d < 16 → ((⟨#[48, 49, 50, 51, 52, 53, 54, 55, 56, 57, 97, 98, 99, 100, 101, 102]⟩ : ByteArray).extract d (d + 1)) = (⟨#[Dg.hexd d]⟩ : ByteArray) := by decide +kernel

theorem ref_sum2 (st : Nat) (hst : st < 18446744073709551616) (k : Nat) : ∀ (r i : Nat) (t : ByteArray), i + r = 16 → t.data.toList = (Dg.hex st).drop r →
    pandectref01_Sum.l2 (k + r + 1) ((st / 16 ^ i : Nat) : Int) t (i : Int) = some ⟨(Dg.hex st).toArray⟩ := by
  intro r
  induction r with
  | zero =>
    intro i t hi ht
    rw [pandectref01_Sum.l2, if_neg (by omega)]
    rw [List.drop_zero] at ht
    congr 1
    exact Dg.ba_ext ht
  | succ r ih =>
    intro i t hi ht
    have hsz : t.size = i := by
      have h1 : t.data.toList.length = i := by rw [ht, List.length_drop, Dg.hex_length]; omega
      exact h1
    have hle : st / 16 ^ i ≤ st := Nat.div_le_self _ _
    have hd : st / 16 ^ i % 16 < 16 := Nat.mod_lt _ (by decide)
    have h1 : Int.tmod ((st / 16 ^ i : Nat) : Int) 16 = ((st / 16 ^ i % 16 : Nat) : Int) := tmod_nat _ 16
    have h2 : Int.tdiv ((st / 16 ^ i : Nat) : Int) 16 = ((st / 16 ^ (i + 1) : Nat) : Int) := by
      rw [Nat.pow_succ, ← Nat.div_div_eq_div_mul]
      exact tdiv_nat _ 16
    have hle2 : st / 16 ^ (i + 1) ≤ st := Nat.div_le_self _ _
    have hlast : wrap64 ((i : Int) + 1) = ((i + 1 : Nat) : Int) := by rw [IntWalk.wrap64_in _ (by omega)]; omega
    have hx : Dg.hexd (st / 16 ^ i % 16) :: t.data.toList = (Dg.hex st).drop r := by
      have hlen := Dg.hex_length st
      rw [List.drop_eq_getElem_cons (by omega), ht]
      congr 1
      unfold Dg.hex
      rw [List.getElem_map, List.getElem_range, show 60 - 4 * r = 4 * i by omega, Nat.pow_mul]
    rw [show k + (r + 1) + 1 = (k + r + 1) + 1 by omega, pandectref01_Sum.l2, if_pos (by omega), h1, h2, hlast]
    generalize st / 16 ^ i % 16 = d at hd hx ⊢
    have hw : IntKind.u64.wrap ((d : Int) + 1) = ((d + 1 : Nat) : Int) := by rw [IntKind.wrap_u64]; omega
    rw [hw, wrap_nat _ (by omega), if_pos (by omega), if_pos (by omega), if_pos (by omega)]
    simp only [Int.toNat_natCast]
    rw [ref_hexdig d hd, if_pos (by rw [hsz]; show 1 + i ≤ _; omega)]
    refine ih (i + 1) _ (by omega) ?_
    rw [← hx]
    rfl

theorem ref_sum (s : ByteArray) (hs : s.size ≤ 1000000000000) (k : Nat) (hk : 2 * s.size + 100 ≤ k) : pandectref01_Sum.f k s = some (Dg.sum s) := by
  obtain ⟨k', rfl⟩ : ∃ k', k = (k' + 16 + 1) + 10 * (s.size / 8 + 1) + 1 := ⟨k - (17 + 10 * (s.size / 8 + 1) + 1), by omega⟩
  unfold pandectref01_Sum.f
  have hx : Go.bits .xor .u64 1442695040888963407 (IntKind.u64.wrap ((s.size : Int))) = ((1442695040888963407 ^^^ s.size : Nat) : Int) := by
    rw [wrap_nat _ (by omega)]
    exact Dg.xor_u64 1442695040888963407 s.size (by omega) (by omega)
  rw [hx]
  have h1 := ref_sum0 s hs (k' + 16 + 1) (s.size / 8) 0 (1442695040888963407 ^^^ s.size) (Dg.xor_lt _ _ (by omega) (by omega)) (by omega)
  refine Eq.trans h1 ?_
  have h2 := ref_sum2 (Dg.state s.data.toList) (Dg.state_lt _) k' 16 0 ⟨#[]⟩ (by omega) (by rw [List.drop_of_length_le (by rw [Dg.hex_length]; omega)])
  rw [Nat.pow_zero, Nat.div_one] at h2
  exact h2

theorem ref_decdig : ∀ d : Nat, d < 10 → ((⟨#[48, 49, 50, 51, 52, 53, 54, 55, 56, 57]⟩ : ByteArray).extract d (d + 1)) = (⟨#[UInt8.ofNat (48 + d)]⟩ : ByteArray) := by decide +kernel

theorem ref_digits0 (u : Nat) : ∀ k (s : ByteArray), u < k → s.size + u ≤ 1000000000000 → ∃ t : ByteArray, pandectref01_digits.l0 k (u : Int) s = some t ∧ t.data.toList = (if u = 0 then [] else Lib.decDigits u) ++ s.data.toList := by
  induction u using Nat.strongRecOn with
  | _ u ih =>
    intro k s hk hs
    obtain ⟨k, rfl⟩ : ∃ k', k = k' + 1 := ⟨k - 1, by omega⟩
    by_cases h0 : u = 0
    · subst h0
      refine ⟨s, ?_, rfl⟩
      rw [pandectref01_digits.l0, if_neg (by decide)]
    · have hd : u % 10 < 10 := Nat.mod_lt _ (by decide)
      have h1 : Int.tmod (u : Int) 10 = ((u % 10 : Nat) : Int) := tmod_nat _ 10
      have h2 : Int.tdiv (u : Int) 10 = ((u / 10 : Nat) : Int) := tdiv_nat _ 10
      have hw : IntKind.u64.wrap (((u % 10 : Nat) : Int) + 1) = ((u % 10 + 1 : Nat) : Int) := by rw [IntKind.wrap_u64]; omega
      have hsz : ((⟨#[UInt8.ofNat (48 + u % 10)]⟩ : ByteArray) ++ s).size = 1 + s.size := by rw [ByteArray.size_append]; rfl
      obtain ⟨t, e1, e2⟩ := ih (u / 10) (by omega) k ((⟨#[UInt8.ofNat (48 + u % 10)]⟩ : ByteArray) ++ s) (by omega) (by rw [hsz]; omega)
      refine ⟨t, ?_, ?_⟩
      · rw [pandectref01_digits.l0, if_pos (by omega), h1, h2, hw, wrap_nat _ (by omega), if_pos (by omega), if_pos (by omega), if_pos (by omega)]
        simp only [Int.toNat_natCast]
        rw [ref_decdig _ hd, if_pos (by show 1 + s.size ≤ _; omega)]
        exact e1
      · rw [e2, if_neg h0]
        have h3 : ((⟨#[UInt8.ofNat (48 + u % 10)]⟩ : ByteArray) ++ s).data.toList = UInt8.ofNat (48 + u % 10) :: s.data.toList := rfl
        rw [h3]
        by_cases h : u < 10
        · rw [if_pos (by omega), Lib.decDigits_one h, Nat.mod_eq_of_lt h]; rfl
        · rw [if_neg (by omega)]
          rw [show Lib.decDigits u = Lib.decDigits (u / 10) ++ [UInt8.ofNat (48 + u % 10)] by rw [Lib.decDigits, dif_neg h]]
          simp

theorem ref_decimal (u k : Nat) (hk : u < k) (hu : u ≤ 100000000000) : ∃ t : ByteArray, pandectref01_Decimal.f k (u : Int) = some t ∧ t.data.toList = Lib.itoa u := by
  have hd : u % 10 < 10 := Nat.mod_lt _ (by decide)
  have h1 : Int.tmod (u : Int) 10 = ((u % 10 : Nat) : Int) := tmod_nat _ 10
  have h2 : Int.tdiv (u : Int) 10 = ((u / 10 : Nat) : Int) := tdiv_nat _ 10
  have hw : IntKind.u64.wrap (((u % 10 : Nat) : Int) + 1) = ((u % 10 + 1 : Nat) : Int) := by rw [IntKind.wrap_u64]; omega
  obtain ⟨t, e1, e2⟩ := ref_digits0 (u / 10) k ⟨#[UInt8.ofNat (48 + u % 10)]⟩ (by omega) (by show 1 + _ ≤ _; omega)
  refine ⟨t, ?_, ?_⟩
  · unfold pandectref01_Decimal.f pandectref01_digits.f
    rw [if_neg (by omega), wrap_nat u (by omega), h1, h2, hw, wrap_nat _ (by omega), if_pos (by omega), if_pos (by omega), if_pos (by omega)]
    simp only [Int.toNat_natCast]
    rw [ref_decdig _ hd, e1]
    rfl
  · rw [e2, Lib.itoa_nonneg]
    by_cases h : u < 10
    · rw [if_pos (by omega), Lib.decDigits_one h, Nat.mod_eq_of_lt h]; rfl
    · rw [if_neg (by omega)]
      rw [show Lib.decDigits u = Lib.decDigits (u / 10) ++ [UInt8.ofNat (48 + u % 10)] by rw [Lib.decDigits, dif_neg h]]

theorem rd_nat (l : List ByteArray) (i : Nat) : rdOf ByteArray.empty l (i : Int) = l.getD i ByteArray.empty := rfl
theorem rd_lt (l : List ByteArray) (i : Nat) (h : i < l.length) : rdOf ByteArray.empty l (i : Int) = l[i] := by
  rw [rd_nat, List.getD_eq_getElem?_getD, List.getElem?_eq_getElem h]; rfl

theorem joinedL_size (l : List ByteArray) : ∀ x ∈ l, x.size + 2 ≤ (Dg.joinedL l).length := by
  intro x hx
  obtain ⟨a, b, rfl⟩ := List.append_of_mem hx
  rw [Dg.joinedL_append]
  simp only [Dg.joinedL, List.flatMap_cons, List.length_append, Dg.piece, List.length_cons]
  have h1 : x.data.toList.length = x.size := rfl
  have h2 : 1 ≤ (Lib.itoa x.size).length := by
    rw [Lib.itoa_nonneg, Lib.decDigits_length]; exact Lib.nDigits_pos _
  omega

theorem joinedL_len (l : List ByteArray) : 2 * l.length ≤ (Dg.joinedL l).length := by
  induction l with
  | nil => simp
  | cons x l ih =>
    simp only [Dg.joinedL, List.flatMap_cons, List.length_append, Dg.piece, List.length_cons] at ih ⊢
    have h2 : 1 ≤ (Lib.itoa x.size).length := by
      rw [Lib.itoa_nonneg, Lib.decDigits_length]; exact Lib.nDigits_pos _
    omega

theorem bytes_map (l : List UInt8) : strOfNums (l.map fun b => (b.toNat : Int)) = ⟨l.toArray⟩ := by
  unfold strOfNums
  rw [List.map_map]
  have : (fun n : Int => UInt8.ofNat n.toNat) ∘ (fun b : UInt8 => (b.toNat : Int)) = id := by
    funext b; simp
  rw [this, List.map_id]

theorem ref_joined0 (l : List ByteArray) (hl : (Dg.joinedL l).length ≤ 1000000000) (k : Nat) : ∀ r i c : Nat, i + r = l.length → c + r * 2000000000 ≤ 200000000000000 →
    pandectref01_Joined.l0 (k + r + 1) l (c : Int) (i : Int) = pandectref01_Joined.l1 k l [] 0 := by
  intro r
  induction r with
  | zero =>
    intro i c hi hc
    rw [pandectref01_Joined.l0, if_neg (by omega), if_pos (by omega), if_pos (by omega)]
  | succ r ih =>
    intro i c hi hc
    have h5 := joinedL_len l
    have h1 := joinedL_size l _ (List.getElem_mem (show i < l.length by omega))
    rw [show k + (r + 1) + 1 = (k + r + 1) + 1 by omega, pandectref01_Joined.l0, if_pos (by omega), if_pos (by omega), rd_lt l i (by omega)]
    have h2 : wrap64 ((l[i].size : Int) + 21) = ((l[i].size + 21 : Nat) : Int) := by rw [IntWalk.wrap64_in _ (by omega)]; omega
    have h3 : wrap64 ((c : Int) + ((l[i].size + 21 : Nat) : Int)) = ((c + (l[i].size + 21) : Nat) : Int) := by rw [IntWalk.wrap64_in _ (by omega)]; omega
    have h4 : wrap64 ((i : Int) + 1) = ((i + 1 : Nat) : Int) := by rw [IntWalk.wrap64_in _ (by omega)]; omega
    rw [h2, h3, h4]
    exact ih (i + 1) _ (by omega) (by omega)

theorem ref_joined1 (l : List ByteArray) (hl : (Dg.joinedL l).length ≤ 1000000000) : ∀ r i k : Nat, i + r = l.length → (Dg.joinedL l).length + r + 1 ≤ k →
    pandectref01_Joined.l1 k l ((Dg.joinedL (l.take i)).map fun b => (b.toNat : Int)) (i : Int) = some (Dg.joined l) := by
  intro r
  induction r with
  | zero =>
    intro i k hi hk
    obtain ⟨k, rfl⟩ : ∃ k', k = k' + 1 := ⟨k - 1, by omega⟩
    rw [pandectref01_Joined.l1, if_neg (by omega), bytes_map, show i = l.length by omega, List.take_length]
    rfl
  | succ r ih =>
    intro i k hi hk
    obtain ⟨k, rfl⟩ : ∃ k', k = k' + 1 := ⟨k - 1, by omega⟩
    have hlt : i < l.length := by omega
    have h1 := joinedL_size l _ (List.getElem_mem hlt)
    have h2 := joinedL_len l
    have hs := Dg.joinedL_take_succ l i hlt
    have hle := Dg.joinedL_take_le l (i + 1)
    obtain ⟨t, e1, e2⟩ := ref_decimal l[i].size k (by omega) (by omega)
    have e := ih (i + 1) k (by omega) (by omega)
    have h4 : wrap64 ((i : Int) + 1) = ((i + 1 : Nat) : Int) := by rw [IntWalk.wrap64_in _ (by omega)]; omega
    have hts : t.size = (Lib.itoa l[i].size).length := by rw [← e2]; rfl
    have hps : (Dg.piece l[i]).length = (Lib.itoa l[i].size).length + 1 + l[i].size := by
      simp only [Dg.piece, List.length_append, List.length_cons]
      have : l[i].data.toList.length = l[i].size := rfl
      omega
    rw [hs] at hle e
    rw [List.length_append] at hle
    rw [pandectref01_Joined.l1, if_pos (by omega), if_pos (by omega), rd_lt l i hlt, e1, Option.bind_some, if_pos (by rw [List.length_map]; omega), Option.bind_some]
    rw [if_pos (by rw [List.length_append, List.length_map, bytesOf_length]; omega), Option.bind_some, if_pos (by rw [List.length_append, List.length_append, List.length_map, bytesOf_length, List.length_singleton]; omega), h4]
    rw [← e]
    congr 1
    simp only [Dg.piece, List.map_append, List.map_cons, bytesOf, e2, List.append_assoc, List.singleton_append]
    rfl

theorem ref_joined (l : List ByteArray) (h3 : l.length ≤ 1000) (hl : (Dg.joinedL l).length ≤ 1000000000) (k : Nat) (hk : 3 * (Dg.joinedL l).length + 200 ≤ k) : pandectref01_Joined.f k l = some (Dg.joined l) := by
  have h2 := joinedL_len l
  obtain ⟨k', rfl⟩ : ∃ k', k = k' + l.length + 1 := ⟨k - (l.length + 1), by omega⟩
  unfold pandectref01_Joined.f
  refine Eq.trans (ref_joined0 l (by omega) k' l.length 0 0 (by omega) (by omega)) ?_
  exact ref_joined1 l hl l.length 0 k' (by omega) (by omega)

end Go.Proofs.YtfhdknjccmcgdaaGreatDoor.P
/- What the trees' printed functions answer, the reference's too; equal lists. By gen_mref.py. -/
namespace Go.Proofs.YtfhdknjccmcgdaaGreatDoor.P
open Go.RowKit Go.Proofs.YtfhdknjccmcgdaaGreatDoor Go.Proofs.YtfhdknjccmcgdaaGreatDoorW.PrintWords Go.Proofs.YtfhdknjccmcgdaaGreatDoorW.PrintLast Go.Proofs.YtfhdknjccmcgdaaGreatDoorW.PrintMore
set_option linter.unusedVariables false
set_option linter.unusedSimpArgs false

/-- At most 20 strings of at most 100 bytes. -/
def Small (l : List ByteArray) : Prop := ∀ x ∈ l, x.size ≤ 100

theorem Small.take {l : List ByteArray} (h : Small l) (k : Nat) : Small (l.take k) := fun x hx => h x (List.mem_of_mem_take hx)

theorem Small.drop {l : List ByteArray} (h : Small l) (k : Nat) : Small (l.drop k) := fun x hx => h x (List.mem_of_mem_drop hx)

theorem Small.getD {l : List ByteArray} (h : Small l) (i : Nat) : (l.getD i ByteArray.empty).size ≤ 100 := by
  rw [List.getD_eq_getElem?_getD]
  rcases Nat.lt_or_ge i l.length with h1 | h1
  · rw [List.getElem?_eq_getElem h1]; exact h _ (List.getElem_mem h1)
  · rw [List.getElem?_eq_none h1]; decide

theorem Small.cons {x : ByteArray} {l : List ByteArray} (h1 : x.size ≤ 100) (h : Small l) : Small (x :: l) := fun y hy => by
  rcases List.mem_cons.1 hy with rfl | h2
  · exact h1
  · exact h y h2

theorem Small.nil : Small [] := fun y hy => by cases hy

theorem Small.append {l m : List ByteArray} (h1 : Small l) (h2 : Small m) : Small (l ++ m) := fun y hy => by
  rcases List.mem_append.1 hy with h | h
  · exact h1 y h
  · exact h2 y h

theorem Small.dropLast {l : List ByteArray} (h : Small l) : Small l.dropLast := fun x hx => h x ((List.dropLast_sublist l).subset hx)

theorem Small.last {l : List ByteArray} (h : Small l) : (Tr.last l).size ≤ 100 := by
  unfold Tr.last
  cases hl : l.getLast? with
  | none => decide
  | some x => exact h x (List.mem_of_getLast? hl)

theorem root_size (l : List ByteArray) : (Tr.root l).size = 16 := by
  have := Tr.isD_root l
  unfold Dg.isD at this
  rw [Bool.and_eq_true, beq_iff_eq] at this
  exact this.1

theorem isD_size {x : ByteArray} (h : Dg.isD x = true) : x.size = 16 := by
  unfold Dg.isD at h
  rw [Bool.and_eq_true, beq_iff_eq] at h
  exact h.1

theorem node_size (a b : ByteArray) : (Tr.node a b).size = 16 := isD_size (Dg.isD_list _)

theorem leaf_size (a : ByteArray) : (Tr.leaf a).size = 16 := isD_size (Dg.isD_list _)

theorem joined_small (l : List ByteArray) (h : Small l) : (Dg.joinedL l).length ≤ l.length * 122 := by
  induction l with
  | nil => simp [Dg.joinedL]
  | cons x l ih =>
    have h1 := Dg.piece_le x (by have := h x (by simp); omega)
    have h2 := h x (by simp)
    have h3 := ih fun y hy => h y (by simp [hy])
    simp only [Dg.joinedL, List.flatMap_cons, List.length_append, List.length_cons] at h3 ⊢
    omega

theorem dig_list3 (l : List ByteArray) (h3 : l.length ≤ 3) (h : Small l) : digest_List.f l = some (Dg.list l) := by
  have := joined_small l h
  unfold digest_List.f
  rw [if_pos ⟨by omega, by omega⟩]

theorem half_loop (n : Nat) (hn : n ≤ 1000000) : ∀ f c k : Nat, f < k → 1 ≤ c → c ≤ n → n ≤ c * 2 ^ f → tree_half.l0 k (n : Int) (c : Int) = some ((Tr.halfGo f c n : Nat) : Int) := by
  intro f
  induction f with
  | zero =>
    intro c k hk h1 h2 h3
    obtain ⟨k, rfl⟩ : ∃ k', k = k' + 1 := ⟨k - 1, by omega⟩
    have hw : wrap64 ((c : Int) * 2) = ((c * 2 : Nat) : Int) := by rw [IntWalk.wrap64_in _ (by omega)]; omega
    rw [tree_half.l0, hw, if_neg (by omega)]; rfl
  | succ f ih =>
    intro c k hk h1 h2 h3
    obtain ⟨k, rfl⟩ : ∃ k', k = k' + 1 := ⟨k - 1, by omega⟩
    have hw : wrap64 ((c : Int) * 2) = ((c * 2 : Nat) : Int) := by rw [IntWalk.wrap64_in _ (by omega)]; omega
    rw [tree_half.l0, hw]
    simp only [Tr.halfGo]
    by_cases h : c * 2 < n
    · rw [if_pos (by omega), if_pos h]
      exact ih (c * 2) k (by omega) (by omega) (by omega) (by rw [Nat.mul_assoc, ← Nat.pow_succ']; exact h3)
    · rw [if_neg (by omega), if_neg h]

theorem half_is (n : Nat) (h1 : 1 ≤ n) (hn : n ≤ 1000000) (k : Nat) (hk : 100 ≤ k) : tree_half.f k (n : Int) = some ((Tr.half n : Nat) : Int) :=
  half_loop n hn 64 1 k (by omega) (by omega) h1 (by omega)

theorem node_is (a b : ByteArray) (ha : a.size ≤ 100) (hb : b.size ≤ 100) : tree_node.f a b = some (Tr.node a b) := by
  unfold tree_node.f
  rw [dig_list3 _ (by simp) (.cons (by decide) (.cons ha (.cons hb .nil)))]
  rfl

theorem root_is (l : List ByteArray) : ∀ k : Nat, l.length ≤ 20 → Small l → 1400 + l.length ≤ k → tree_Root.f k l = some (Tr.root l) := by
  induction l using Tr.list_ind with
  | h l ih =>
    intro k h20 hs hk
    obtain ⟨k, rfl⟩ : ∃ k', k = k' + 1 := ⟨k - 1, by omega⟩
    by_cases h0 : l.length = 0
    · rw [tree_Root.f, if_pos (by omega), Tr.root_zero l h0, dig_list3 _ (by simp) (.cons (by decide) .nil)]
      rfl
    · by_cases h1 : l.length = 1
      · rw [tree_Root.f, if_neg (by omega), if_pos (by omega), if_pos (by omega), Tr.root_one l h1, show rdOf ByteArray.empty l 0 = l.getD 0 ByteArray.empty from rfl, dig_list3 _ (by simp) (.cons (by decide) (.cons (hs.getD 0) .nil))]
        rfl
      · obtain ⟨ia, ib⟩ := ih (by omega)
        have h2 := Tr.half_lt l.length (by omega)
        have h3 := Tr.half_pos l.length
        have hl := Tr.take_len l (by omega)
        have hr := Tr.drop_len l
        rw [tree_Root.f, if_neg (by omega), if_neg (by omega), half_is _ (by omega) (by omega) k (by omega), Option.bind_some, if_pos (by omega), if_pos (by omega)]
        simp only [Int.toNat_natCast]
        rw [ia k (by omega) (hs.take _) (by omega), Option.bind_some, ib k (by omega) (hs.drop _) (by omega), Option.bind_some, node_is _ _ (by rw [root_size]; omega) (by rw [root_size]; omega), Tr.root_node l (by omega)]
        rfl

theorem rev_loop : ∀ (n : Nat) (M : List ByteArray), M.length = n → ∀ (A B : List ByteArray) (k : Nat), A.length + M.length + B.length ≤ 1000000 → n < k →
    slices_Reverse_string_string.l0 k (A ++ M ++ B) (A.length : Int) ((A.length : Int) + M.length - 1) = some (A ++ M.reverse ++ B) := by
  intro n
  induction n using Nat.strongRecOn with
  | _ n ih =>
    intro M hM A B k hb hk
    obtain ⟨k, rfl⟩ : ∃ k', k = k' + 1 := ⟨k - 1, by omega⟩
    rcases M with _ | ⟨a, M⟩
    · rw [slices_Reverse_string_string.l0, if_neg (by simp only [List.length_nil]; omega)]; simp
    · rcases List.eq_nil_or_concat M with rfl | ⟨M', b, rfl⟩
      · rw [slices_Reverse_string_string.l0, if_neg (by simp only [List.length_cons, List.length_nil]; omega)]; simp
      · simp only [List.concat_eq_append] at hM hb ⊢
        simp only [List.length_cons, List.length_append, List.length_nil] at hM hb ⊢
        have hlen : (A ++ a :: (M' ++ [b]) ++ B).length = A.length + (M'.length + 2) + B.length := by simp; omega
        have hj : (A.length : Int) + ((M'.length + (0 + 1) + 1 : Nat) : Int) - 1 = ((A.length + M'.length + 1 : Nat) : Int) := by omega
        rw [hj, slices_Reverse_string_string.l0, if_pos (by omega), if_pos (by omega), if_pos (by omega), if_pos (by omega), if_pos (by omega)]
        have w1 : wrap64 ((A.length : Int) + 1) = ((A.length + 1 : Nat) : Int) := by rw [IntWalk.wrap64_in _ (by omega)]; omega
        have w2 : wrap64 (((A.length + M'.length + 1 : Nat) : Int) - 1) = ((A.length + M'.length : Nat) : Int) := by rw [IntWalk.wrap64_in _ (by omega)]; omega
        rw [w1, w2, rd_nat, rd_nat]
        simp only [Int.toNat_natCast]
        have q1 : A ++ a :: (M' ++ [b]) ++ B = (A ++ a :: M') ++ b :: B := by simp
        have q2 : (A ++ a :: M').length = A.length + M'.length + 1 := by simp; omega
        have g1 : (A ++ a :: (M' ++ [b]) ++ B).getD (A.length + M'.length + 1) ByteArray.empty = b := by
          rw [q1, ← q2, List.getD_eq_getElem?_getD, List.getElem?_append_right (Nat.le_refl _)]
          simp
        have g2 : (A ++ a :: (M' ++ [b]) ++ B).getD A.length ByteArray.empty = a := by
          rw [List.getD_eq_getElem?_getD]
          simp [List.getElem?_append]
        rw [g1, g2]
        have s1 : ((A ++ a :: (M' ++ [b]) ++ B).set A.length b).set (A.length + M'.length + 1) a = (A ++ [b]) ++ M' ++ ([a] ++ B) := by
          have q3 : (A ++ a :: (M' ++ [b]) ++ B).set A.length b = (A ++ b :: M') ++ b :: B := by
            rw [q1, List.append_assoc, List.set_append_right _ _ (Nat.le_refl _)]
            simp
          have q4 : (A ++ b :: M').length = A.length + M'.length + 1 := by simp; omega
          rw [q3, ← q4, List.set_append_right _ _ (Nat.le_refl _)]
          simp
        rw [s1]
        have e := ih M'.length (by omega) M' rfl (A ++ [b]) ([a] ++ B) k (by simp; omega) (by omega)
        rw [show ((A ++ [b]).length : Int) = ((A.length + 1 : Nat) : Int) by simp, show ((A.length + 1 : Nat) : Int) + (M'.length : Int) - 1 = ((A.length + M'.length : Nat) : Int) by omega] at e
        rw [e]
        simp

theorem rev_is (l : List ByteArray) (h : l.length ≤ 1000) (k : Nat) (hk : l.length < k) : slices_Reverse_string_string.f k l = some l.reverse := by
  unfold slices_Reverse_string_string.f
  have e := rev_loop l.length l rfl [] [] k (by simp; omega) hk
  have w : wrap64 ((l.length : Int) - 1) = (([] : List ByteArray).length : Int) + l.length - 1 := by rw [IntWalk.wrap64_in _ (by omega)]; simp
  rw [w]
  simp only [List.nil_append, List.append_nil] at e
  exact e

theorem path_loop (l : List ByteArray) : ∀ (i k : Nat) (acc : List ByteArray), l.length ≤ 20 → Small l → i < l.length → acc.length + l.length ≤ 100 → 1600 + l.length ≤ k →
    tree_Path.l0 k l (i : Int) acc = some (Tr.path l i ++ acc.reverse, 0) := by
  induction l using Tr.list_ind with
  | h l ih =>
    intro i k acc h20 hs hi ha hk
    obtain ⟨k, rfl⟩ : ∃ k', k = k' + 1 := ⟨k - 1, by omega⟩
    by_cases h1 : l.length ≤ 1
    · rw [tree_Path.l0, if_neg (by omega), rev_is acc (by omega) k (by omega), Tr.path_one l i h1]
      rfl
    · obtain ⟨ia, ib⟩ := ih (by omega)
      have h2 := Tr.half_lt l.length (by omega)
      have h3 := Tr.half_pos l.length
      have hl := Tr.take_len l (by omega)
      have hr := Tr.drop_len l
      rw [tree_Path.l0, if_pos (by omega), half_is _ (by omega) (by omega) k (by omega), Option.bind_some]
      simp only [Int.toNat_natCast]
      by_cases hh : i < Tr.half l.length
      · rw [if_pos (by omega), if_pos (by omega), if_pos (by omega), root_is _ k (by omega) (hs.drop _) (by omega), Option.bind_some, if_pos (by omega), ia i k _ (by omega) (hs.take _) (by omega) (by rw [List.length_append, List.length_singleton]; omega) (by omega), Tr.path_left l i (by omega) hh]
        simp
      · have w : wrap64 ((i : Int) - ((Tr.half l.length : Nat) : Int)) = ((i - Tr.half l.length : Nat) : Int) := by rw [IntWalk.wrap64_in _ (by omega)]; omega
        rw [if_neg (by omega), if_pos (by omega), if_pos (by omega), root_is _ k (by omega) (hs.take _) (by omega), Option.bind_some, if_pos (by omega), w, ib _ k _ (by omega) (hs.drop _) (by omega) (by rw [List.length_append, List.length_singleton]; omega) (by omega), Tr.path_right l i (by omega) hh]
        simp

theorem path_is (l : List ByteArray) (i : Nat) (h20 : l.length ≤ 20) (hs : Small l) (hi : i < l.length) (k : Nat) (hk : 1700 ≤ k) : tree_Path.f k l (i : Int) = some (Tr.path l i, 0) := by
  obtain ⟨k, rfl⟩ : ∃ k', k = k' + 1 := ⟨k - 1, by omega⟩
  unfold tree_Path.f
  rw [if_neg (by omega), decide_eq_false (by omega), tree_Path.j0, if_neg (by decide), path_loop l i k [] h20 hs hi (by simp; omega) (by omega)]
  simp

theorem check_is (r : ByteArray) (n i : Int) (x : ByteArray) (p : List ByteArray) (hp : p.length ≤ 1000) (hx : x.size ≤ 1000) : tree_Check.f r n i x p = some (Tr.check r n i x p) := by
  unfold tree_Check.f; rw [if_pos ⟨by omega, by omega⟩]

theorem toList_eq_iff (a b : ByteArray) : (a.toList == b.toList) = decide (a = b) := by
  rw [Bool.eq_iff_iff, beq_iff_eq, decide_eq_true_iff, ByteArray.toList_eq, ByteArray.toList_eq]
  exact ⟨fun h => ByteArray.ext (Array.toList_inj.1 h), fun h => by rw [h]⟩

/-- One digit, as the reference reads it. -/
theorem ref_digit (b : UInt8) (k : Nat) (hk : 1 ≤ k) : ∃ d : Int, pandectref01_Digit.f k (b.toNat : Int) = some d ∧ (d < 0 ↔ Dg.hexset.contains b = false) := by
  obtain ⟨k, rfl⟩ : ∃ k', k = k' + 1 := ⟨k - 1, by omega⟩
  have hall : ∀ n : Fin 256, Dg.hexset.contains (UInt8.ofNat n.val) = (decide (48 ≤ n.val ∧ n.val ≤ 57) || decide (97 ≤ n.val ∧ n.val ≤ 102)) := by decide +kernel
  have hb := b.toNat_lt
  have hc := hall ⟨b.toNat, hb⟩
  simp only [UInt8.ofNat_toNat] at hc
  rw [hc]
  unfold pandectref01_Digit.f
  by_cases h1 : b.toNat ≥ 48
  · rw [if_pos (by omega)]
    by_cases h2 : b.toNat ≤ 57
    · rw [decide_eq_true (by omega), pandectref01_Digit.j0, if_pos rfl]
      refine ⟨_, rfl, ?_⟩
      rw [decide_eq_true (by omega)]
      simp; omega
    · rw [decide_eq_false (by omega), pandectref01_Digit.j0, if_neg (by decide)]
      by_cases h3 : b.toNat ≥ 97
      · rw [if_pos (by omega)]
        by_cases h4 : b.toNat ≤ 102
        · rw [if_pos (by omega)]
          refine ⟨_, rfl, ?_⟩
          rw [decide_eq_false (by omega), decide_eq_true (by omega)]
          simp; omega
        · rw [if_neg (by omega)]
          refine ⟨_, rfl, ?_⟩
          rw [decide_eq_false (by omega), decide_eq_false (by omega)]
          simp
      · rw [if_neg (by omega)]
        refine ⟨_, rfl, ?_⟩
        rw [decide_eq_false (by omega), decide_eq_false (by omega)]
        simp
  · rw [if_neg (by omega), pandectref01_Digit.j0, if_neg (by decide), if_neg (by omega)]
    refine ⟨_, rfl, ?_⟩
    rw [decide_eq_false (by omega), decide_eq_false (by omega)]
    simp

theorem bt_getElem (s : ByteArray) (i : Nat) (h : i < s.data.toList.length) : bt s (i : Int) = ((s.data.toList[i]).toNat : Int) := by
  rw [bt_at0]
  unfold Dg.at0
  rw [List.getD_eq_getElem?_getD, List.getElem?_eq_getElem h]
  rfl

theorem toList_iff (a b : ByteArray) : a.toList = b.toList ↔ a = b := by
  have := toList_eq_iff a b
  rw [Bool.eq_iff_iff, beq_iff_eq, decide_eq_true_iff] at this
  exact this

theorem same_loop (a b : List ByteArray) (hl : a.length = b.length) (ha : a.length ≤ 1000) : ∀ (r i k : Nat), i + r = a.length → a.take i = b.take i → r + 2 ≤ k → pandectref01_Same.l0 k a b (i : Int) = some (decide (a = b)) := by
  intro r
  induction r with
  | zero =>
    intro i k hi ht hk
    obtain ⟨k, rfl⟩ : ∃ k', k = k' + 1 := ⟨k - 1, by omega⟩
    rw [pandectref01_Same.l0, if_neg (by omega)]
    rw [show i = a.length by omega, List.take_length, hl, List.take_length] at ht
    rw [decide_eq_true ht]
  | succ r ih =>
    intro i k hi ht hk
    obtain ⟨k, rfl⟩ : ∃ k', k = k' + 1 := ⟨k - 1, by omega⟩
    have w : wrap64 ((i : Int) + 1) = ((i + 1 : Nat) : Int) := by rw [IntWalk.wrap64_in _ (by omega)]; omega
    rw [pandectref01_Same.l0, if_pos (by omega), if_pos (by omega), if_pos (by omega), rd_lt a i (by omega), rd_lt b i (by omega), w]
    by_cases he : a[i]'(by omega) = b[i]'(by omega)
    · rw [if_pos (by rw [he])]
      refine ih (i + 1) k (by omega) ?_ (by omega)
      rw [List.take_succ_eq_append_getElem (by omega), List.take_succ_eq_append_getElem (by omega), ht, he]
    · rw [if_neg (fun h => he ((toList_iff _ _).1 h)), decide_eq_false]
      intro h; subst h; exact he rfl

theorem same_is (a b : List ByteArray) (ha : a.length ≤ 1000) (k : Nat) (hk : 1100 ≤ k) : pandectref01_Same.f k a b = some (decide (a = b)) := by
  unfold pandectref01_Same.f
  by_cases hl : a.length = b.length
  · rw [if_pos (by omega)]
    exact same_loop a b hl ha a.length 0 k (by omega) (by simp) (by omega)
  · rw [if_neg (by omega), decide_eq_false]
    intro h; subst h; exact hl rfl

theorem ref_list (l : List ByteArray) (h3 : l.length ≤ 1000) (hl : (Dg.joinedL l).length ≤ 1000000) (k : Nat) (hk : 3 * (Dg.joinedL l).length + 200 ≤ k) : pandectref01_List.f k l = some (Dg.list l) := by
  unfold pandectref01_List.f
  rw [ref_joined l h3 (by omega) k hk]
  show (pandectref01_Sum.f k (Dg.joined l)).bind _ = _
  rw [ref_sum (Dg.joined l) (by show (Dg.joinedL l).length ≤ _; omega) k (by show 2 * (Dg.joinedL l).length + 100 ≤ k; omega)]
  rfl

theorem ref_list3 (l : List ByteArray) (h3 : l.length ≤ 3) (h : Small l) (k : Nat) (hk : 1300 ≤ k) : pandectref01_List.f k l = some (Dg.list l) := by
  have := joined_small l h
  exact ref_list l (by omega) (by omega) k (by omega)

theorem ref_half_loop (n : Nat) (hn : n ≤ 1000000) : ∀ f c k : Nat, f < k → 1 ≤ c → c ≤ n → n ≤ c * 2 ^ f → pandectref02_Half.l0 k (n : Int) (c : Int) = some ((Tr.halfGo f c n : Nat) : Int) := by
  intro f
  induction f with
  | zero =>
    intro c k hk h1 h2 h3
    obtain ⟨k, rfl⟩ : ∃ k', k = k' + 1 := ⟨k - 1, by omega⟩
    have hw : wrap64 (2 * (c : Int)) = ((c * 2 : Nat) : Int) := by rw [IntWalk.wrap64_in _ (by omega)]; omega
    rw [pandectref02_Half.l0, hw, if_neg (by omega)]; rfl
  | succ f ih =>
    intro c k hk h1 h2 h3
    obtain ⟨k, rfl⟩ : ∃ k', k = k' + 1 := ⟨k - 1, by omega⟩
    have hw : wrap64 (2 * (c : Int)) = ((c * 2 : Nat) : Int) := by rw [IntWalk.wrap64_in _ (by omega)]; omega
    rw [pandectref02_Half.l0, hw]
    simp only [Tr.halfGo]
    by_cases h : c * 2 < n
    · rw [if_pos (by omega), if_pos h]
      exact ih (c * 2) k (by omega) (by omega) (by omega) (by rw [Nat.mul_assoc, ← Nat.pow_succ']; exact h3)
    · rw [if_neg (by omega), if_neg h]

theorem ref_half (n : Nat) (h1 : 1 ≤ n) (hn : n ≤ 1000000) (k : Nat) (hk : 100 ≤ k) : pandectref02_Half.f k (n : Int) = some ((Tr.half n : Nat) : Int) :=
  ref_half_loop n hn 64 1 k (by omega) (by omega) h1 (by omega)


theorem ref_node (a b : ByteArray) (ha : a.size ≤ 100) (hb : b.size ≤ 100) (k : Nat) (hk : 1300 ≤ k) : pandectref02_node.f k a b = some (Tr.node a b) := by
  unfold pandectref02_node.f
  rw [ref_list3 _ (by simp) (.cons (by decide) (.cons ha (.cons hb .nil))) k hk]
  rfl

theorem ref_leaf (a : ByteArray) (ha : a.size ≤ 100) (k : Nat) (hk : 1300 ≤ k) : pandectref02_leaf.f k a = some (Tr.leaf a) := by
  unfold pandectref02_leaf.f
  rw [ref_list3 _ (by simp) (.cons (by decide) (.cons ha .nil)) k hk]
  rfl

theorem ref_empty (k : Nat) (hk : 1300 ≤ k) : pandectref02_Empty.f k = some Tr.empty := by
  unfold pandectref02_Empty.f
  rw [ref_list3 _ (by simp) (.cons (by decide) .nil) k hk]
  rfl

theorem ref_root (l : List ByteArray) : ∀ k : Nat, l.length ≤ 20 → Small l → 1400 + l.length ≤ k → pandectref02_Root.f k l = some (Tr.root l) := by
  induction l using Tr.list_ind with
  | h l ih =>
    intro k h20 hs hk
    obtain ⟨k, rfl⟩ : ∃ k', k = k' + 1 := ⟨k - 1, by omega⟩
    by_cases h0 : l.length = 0
    · rw [pandectref02_Root.f, if_pos (by omega), Tr.root_zero l h0, ref_empty k (by omega)]
      rfl
    · by_cases h1 : l.length = 1
      · rw [pandectref02_Root.f, if_neg (by omega), if_pos (by omega), if_pos (by omega), Tr.root_one l h1, show rdOf ByteArray.empty l 0 = l.getD 0 ByteArray.empty from rfl, ref_leaf _ (hs.getD 0) k (by omega)]
        rfl
      · obtain ⟨ia, ib⟩ := ih (by omega)
        have h2 := Tr.half_lt l.length (by omega)
        have h3 := Tr.half_pos l.length
        have hl := Tr.take_len l (by omega)
        have hr := Tr.drop_len l
        rw [pandectref02_Root.f, if_neg (by omega), if_neg (by omega), ref_half _ (by omega) (by omega) k (by omega), Option.bind_some, if_pos (by omega), if_pos (by omega)]
        simp only [Int.toNat_natCast]
        rw [ia k (by omega) (hs.take _) (by omega), Option.bind_some, ib k (by omega) (hs.drop _) (by omega), Option.bind_some, ref_node _ _ (by rw [root_size]; omega) (by rw [root_size]; omega) k (by omega), Tr.root_node l (by omega)]
        rfl


theorem ref_path (l : List ByteArray) : ∀ (i k : Nat), l.length ≤ 20 → Small l → i < l.length → 1600 + l.length ≤ k → pandectref02_path.f k l (i : Int) = some (Tr.path l i) := by
  induction l using Tr.list_ind with
  | h l ih =>
    intro i k h20 hs hi hk
    obtain ⟨k, rfl⟩ : ∃ k', k = k' + 1 := ⟨k - 1, by omega⟩
    by_cases h1 : l.length = 1
    · rw [pandectref02_path.f, if_pos (by omega), Tr.path_one l i (by omega)]
    · obtain ⟨ia, ib⟩ := ih (by omega)
      have h2 := Tr.half_lt l.length (by omega)
      have h3 := Tr.half_pos l.length
      have hl := Tr.take_len l (by omega)
      have hr := Tr.drop_len l
      rw [pandectref02_path.f, if_neg (by omega), ref_half _ (by omega) (by omega) k (by omega), Option.bind_some]
      simp only [Int.toNat_natCast]
      by_cases hh : i < Tr.half l.length
      · have hlen := Tr.path_length (l.take (Tr.half l.length)) i
        have hle := Tr.len_digs (l.take (Tr.half l.length)).length i (by omega)
        have hd := Tr.digs_le (l.take (Tr.half l.length)).length (by omega)
        rw [if_pos (by omega), if_pos (by omega), if_pos (by omega), ia i k (by omega) (hs.take _) (by omega) (by omega), Option.bind_some, ref_root _ k (by omega) (hs.drop _) (by omega), Option.bind_some, if_pos (by omega), Tr.path_left l i (by omega) hh]
      · have hlen := Tr.path_length (l.drop (Tr.half l.length)) (i - Tr.half l.length)
        have hle := Tr.len_digs (l.drop (Tr.half l.length)).length (i - Tr.half l.length) (by omega)
        have hd := Tr.digs_le (l.drop (Tr.half l.length)).length (by omega)
        have w : wrap64 ((i : Int) - ((Tr.half l.length : Nat) : Int)) = ((i - Tr.half l.length : Nat) : Int) := by rw [IntWalk.wrap64_in _ (by omega)]; omega
        rw [if_neg (by omega), if_pos (by omega), if_pos (by omega), w, ib _ k (by omega) (hs.drop _) (by omega) (by omega), Option.bind_some, ref_root _ k (by omega) (hs.take _) (by omega), Option.bind_some, if_pos (by omega), Tr.path_right l i (by omega) hh]

theorem ref_Path (l : List ByteArray) (i : Nat) (h20 : l.length ≤ 20) (hs : Small l) (hi : i < l.length) (k : Nat) (hk : 1700 ≤ k) : pandectref02_Path.f k l (i : Int) = some (Tr.path l i, 0) := by
  unfold pandectref02_Path.f
  rw [if_neg (by omega), if_neg (by omega), ref_path l i k h20 hs hi (by omega)]
  rfl

theorem len_bound (n i : Nat) : Tr.len n i ≤ n := by
  induction n using Nat.strongRecOn generalizing i with
  | _ n ih =>
    by_cases h1 : n ≤ 1
    · rw [Tr.len_one n i h1]; omega
    · have h2 := Tr.half_lt n (by omega)
      have h3 := Tr.half_pos n
      by_cases hi : i < Tr.half n
      · rw [Tr.len_left n i (by omega) hi]
        have := ih (Tr.half n) (by omega) i
        omega
      · rw [Tr.len_right n i (by omega) hi]
        have := ih (n - Tr.half n) (by omega) (i - Tr.half n)
        omega

theorem ref_length (n : Nat) : ∀ (i k : Nat), 1 ≤ n → n ≤ 1000000 → i < n → 200 + n ≤ k → pandectref02_length.f k (n : Int) (i : Int) = some ((Tr.len n i : Nat) : Int) := by
  induction n using Nat.strongRecOn with
  | _ n ih =>
    intro i k h1 h2 hi hk
    obtain ⟨k, rfl⟩ : ∃ k', k = k' + 1 := ⟨k - 1, by omega⟩
    by_cases h : n = 1
    · rw [pandectref02_length.f, if_pos (by omega), Tr.len_one n i (by omega)]; rfl
    · have h3 := Tr.half_lt n (by omega)
      have h4 := Tr.half_pos n
      rw [pandectref02_length.f, if_neg (by omega), ref_half n h1 h2 k (by omega), Option.bind_some]
      by_cases hh : i < Tr.half n
      · have hb := len_bound (Tr.half n) i
        rw [if_pos (by omega), ih (Tr.half n) h3 i k h4 (by omega) hh (by omega), Option.bind_some, Tr.len_left n i (by omega) hh, IntWalk.wrap64_in _ (by omega)]
        congr 1
      · have hb := len_bound (n - Tr.half n) (i - Tr.half n)
        have w1 : wrap64 ((n : Int) - ((Tr.half n : Nat) : Int)) = ((n - Tr.half n : Nat) : Int) := by rw [IntWalk.wrap64_in _ (by omega)]; omega
        have w2 : wrap64 ((i : Int) - ((Tr.half n : Nat) : Int)) = ((i - Tr.half n : Nat) : Int) := by rw [IntWalk.wrap64_in _ (by omega)]; omega
        rw [if_neg (by omega), w1, w2, ih (n - Tr.half n) (by omega) _ k (by omega) (by omega) (by omega) (by omega), Option.bind_some, Tr.len_right n i (by omega) hh, IntWalk.wrap64_in _ (by omega)]
        congr 1

theorem ref_is_loop (s : ByteArray) (hs : s.size ≤ 1000000) : ∀ (r i k : Nat), i + r = 16 → i ≤ s.size → (s.data.toList.take i).all (Dg.hexset.contains ·) = true → 2 * r + 10 ≤ k → pandectref01_Is.l0 k s (i : Int) = some (Dg.isD s) := by
  intro r
  have hlen : s.data.toList.length = s.size := rfl
  induction r with
  | zero =>
    intro i k hi hle ht hk
    obtain ⟨k, rfl⟩ : ∃ k', k = k' + 1 + 1 := ⟨k - 2, by omega⟩
    have hv : (((s.size : Int) == 16) : Bool) = Dg.isD s := by
      unfold Dg.isD
      by_cases h16 : s.size = 16
      · have h3 : s.data.toList.take i = s.data.toList := List.take_of_length_le (by omega)
        rw [h3] at ht
        rw [ht, h16]; rfl
      · have h3 : ((s.size : Int) == 16) = false := beq_eq_false_iff_ne.mpr (by omega)
        have h4 : (s.size == 16) = false := beq_eq_false_iff_ne.mpr h16
        rw [h3, h4]; rfl
    rw [pandectref01_Is.l0]
    split
    · rw [decide_eq_false (by omega), pandectref01_Is.j1, if_neg (by decide), hv]
    · rw [pandectref01_Is.j1, if_neg (by decide), hv]
  | succ r ih =>
    intro i k hi hle ht hk
    obtain ⟨k, rfl⟩ : ∃ k', k = k' + 1 + 1 := ⟨k - 2, by omega⟩
    rw [pandectref01_Is.l0]
    by_cases hlt : i < s.size
    · obtain ⟨d, hd1, hd2⟩ := ref_digit (s.data.toList[i]'(by omega)) k (by omega)
      have w : wrap64 ((i : Int) + 1) = ((i + 1 : Nat) : Int) := by rw [IntWalk.wrap64_in _ (by omega)]; omega
      rw [if_pos (by omega), decide_eq_true (by omega), pandectref01_Is.j1, if_pos rfl, if_pos (by omega), if_pos (by omega), bt_getElem s i (by omega), hd1, Option.bind_some]
      by_cases hneg : d < 0
      · rw [if_pos hneg]
        have h1 := hd2.1 hneg
        congr 1
        unfold Dg.isD
        have h2 : s.data.toList.all (Dg.hexset.contains ·) = false := by
          rw [List.all_eq_false]
          exact ⟨_, List.getElem_mem (show i < s.data.toList.length by omega), by rw [h1]; decide⟩
        rw [h2, Bool.and_false]
      · rw [if_neg hneg, w]
        refine ih (i + 1) k (by omega) (by omega) ?_ (by omega)
        rw [List.take_succ_eq_append_getElem (show i < s.data.toList.length by omega), List.all_append, ht, Bool.true_and]
        simp only [List.all_cons, List.all_nil, Bool.and_true]
        cases hc : Dg.hexset.contains (s.data.toList[i]'(by omega)) with
        | true => rfl
        | false => exact absurd (hd2.2 hc) hneg
    · rw [if_neg (by omega), pandectref01_Is.j1, if_neg (by decide)]
      congr 1
      unfold Dg.isD
      have h3 : ((s.size : Int) == 16) = false := beq_eq_false_iff_ne.mpr (by omega)
      have h4 : (s.size == 16) = false := beq_eq_false_iff_ne.mpr (by omega)
      rw [h3, h4]; rfl

theorem ref_is (s : ByteArray) (hs : s.size ≤ 1000000) (k : Nat) (hk : 100 ≤ k) : pandectref01_Is.f k s = some (Dg.isD s) :=
  ref_is_loop s hs 16 0 k (by omega) (by omega) (by simp) (by omega)

theorem ref_digests_loop (l : List ByteArray) (hs : Small l) (hl : l.length ≤ 1000) : ∀ (r i k : Nat), i + r = l.length → (l.take i).all Dg.isD = true → 200 + r ≤ k → pandectref02_digests.l0 k l (i : Int) = some (Tr.proper l) := by
  intro r
  induction r with
  | zero =>
    intro i k hi ht hk
    obtain ⟨k, rfl⟩ : ∃ k', k = k' + 1 := ⟨k - 1, by omega⟩
    rw [pandectref02_digests.l0, if_neg (by omega)]
    rw [show i = l.length by omega, List.take_length] at ht
    unfold Tr.proper
    rw [ht]
  | succ r ih =>
    intro i k hi ht hk
    obtain ⟨k, rfl⟩ : ∃ k', k = k' + 1 := ⟨k - 1, by omega⟩
    have hlt : i < l.length := by omega
    have w : wrap64 ((i : Int) + 1) = ((i + 1 : Nat) : Int) := by rw [IntWalk.wrap64_in _ (by omega)]; omega
    have hsz := hs _ (List.getElem_mem hlt)
    rw [pandectref02_digests.l0, if_pos (by omega), if_pos (by omega), rd_lt l i hlt, ref_is _ (by omega) k (by omega), Option.bind_some, w]
    cases hd : Dg.isD l[i] with
    | true =>
      rw [if_pos rfl]
      refine ih (i + 1) k (by omega) ?_ (by omega)
      rw [List.take_succ_eq_append_getElem hlt, List.all_append, ht]
      simp [hd]
    | false =>
      rw [if_neg (by decide)]
      congr 1
      unfold Tr.proper
      symm
      rw [List.all_eq_false]
      exact ⟨_, List.getElem_mem hlt, by rw [hd]; decide⟩

theorem ref_digests (l : List ByteArray) (hs : Small l) (hl : l.length ≤ 1000) (k : Nat) (hk : 1300 ≤ k) : pandectref02_digests.f k l = some (Tr.proper l) :=
  ref_digests_loop l hs hl l.length 0 k (by omega) (by simp) (by omega)


theorem last_rd (p : List ByteArray) (h : 0 < p.length) (hb : p.length ≤ 1000000) : rdOf ByteArray.empty p (wrap64 ((p.length : Int) - 1)) = Tr.last p := by
  have w : wrap64 ((p.length : Int) - 1) = ((p.length - 1 : Nat) : Int) := by rw [IntWalk.wrap64_in _ (by omega)]; omega
  rw [w, rd_lt p _ (by omega)]
  unfold Tr.last
  rw [List.getLast?_eq_getElem?, List.getElem?_eq_getElem (by omega)]
  rfl

theorem last_w (p : List ByteArray) (h : 0 < p.length) (hb : p.length ≤ 1000000) : wrap64 ((p.length : Int) - 1) = ((p.length - 1 : Nat) : Int) := by rw [IntWalk.wrap64_in _ (by omega)]; omega

theorem take_last (p : List ByteArray) : p.take (p.length - 1) = p.dropLast := (List.dropLast_eq_take).symm

theorem up_size (n : Nat) : ∀ (i : Nat) (d : ByteArray) (p : List ByteArray), d.size ≤ 100 → (Tr.up n i d p).size ≤ 100 := by
  intro i d p hd
  rw [Tr.up]
  split
  · exact hd
  · simp only []
    split
    · rw [node_size]; omega
    · rw [node_size]; omega

theorem ref_up (n : Nat) : ∀ (i k : Nat) (d : ByteArray) (p : List ByteArray), 1 ≤ n → n ≤ 1000000 → i < n → d.size ≤ 100 → Small p → p.length ≤ 1000000 → Tr.len n i ≤ p.length → 1400 + n ≤ k →
    pandectref02_up.f k (n : Int) (i : Int) d p = some (Tr.up n i d p) := by
  induction n using Nat.strongRecOn with
  | _ n ih =>
    intro i k d p h1 h2 hi hd hs hp hl hk
    obtain ⟨k, rfl⟩ : ∃ k', k = k' + 1 := ⟨k - 1, by omega⟩
    by_cases h : n = 1
    · rw [pandectref02_up.f, if_pos (by omega), Tr.up_one n i d p (by omega)]
    · have h3 := Tr.half_lt n (by omega)
      have h4 := Tr.half_pos n
      have hpos : 0 < p.length := by
        by_cases hh : i < Tr.half n
        · rw [Tr.len_left n i (by omega) hh] at hl; omega
        · rw [Tr.len_right n i (by omega) hh] at hl; omega
      have hdl : p.dropLast.length = p.length - 1 := List.length_dropLast
      rw [pandectref02_up.f, if_neg (by omega), ref_half n h1 h2 k (by omega), Option.bind_some, last_rd p hpos hp, last_w p hpos hp, if_pos (by omega), if_pos (by omega), if_pos (by omega)]
      simp only [Int.toNat_natCast]
      rw [take_last]
      by_cases hh : i < Tr.half n
      · rw [Tr.len_left n i (by omega) hh] at hl
        rw [if_pos (by omega), ih (Tr.half n) h3 i k d _ h4 (by omega) hh hd hs.dropLast (by omega) (by omega) (by omega), Option.bind_some, ref_node _ _ (up_size _ _ _ _ hd) hs.last k (by omega), Tr.up_left n i d p (by omega) hh]
        rfl
      · rw [Tr.len_right n i (by omega) hh] at hl
        have w1 : wrap64 ((n : Int) - ((Tr.half n : Nat) : Int)) = ((n - Tr.half n : Nat) : Int) := by rw [IntWalk.wrap64_in _ (by omega)]; omega
        have w2 : wrap64 ((i : Int) - ((Tr.half n : Nat) : Int)) = ((i - Tr.half n : Nat) : Int) := by rw [IntWalk.wrap64_in _ (by omega)]; omega
        rw [if_neg (by omega), w1, w2, ih (n - Tr.half n) (by omega) _ k d _ (by omega) (by omega) (by omega) hd hs.dropLast (by omega) (by omega) (by omega), Option.bind_some, ref_node _ _ hs.last (up_size _ _ _ _ hd) k (by omega), Tr.up_right n i d p (by omega) hh]
        rfl

theorem toList_beq (a b : ByteArray) : (a.toList == b.toList) = decide (a = b) := toList_eq_iff a b

theorem ref_check (r : ByteArray) (n i : Int) (x : ByteArray) (p : List ByteArray) (hx : x.size ≤ 100) (hs : Small p) (hp : p.length ≤ 1000) (k : Nat) (hk : 1002000 ≤ k) :
    pandectref02_Check.f k r n i x p = some (Tr.check r n i x p) := by
  obtain ⟨k, rfl⟩ : ∃ k', k = k' + 1 := ⟨k - 1, by omega⟩
  unfold pandectref02_Check.f
  by_cases h1 : n > 1000000
  · rw [if_pos h1, pandectref02_Check.j0, if_pos rfl, Tr.check_false _ _ _ _ _ (.inl h1)]
  · rw [if_neg h1]
    by_cases h2 : i < 0
    · rw [if_pos h2, pandectref02_Check.j0, if_pos rfl, Tr.check_false _ _ _ _ _ (.inr (.inl h2))]
    · rw [if_neg h2]
      by_cases h3 : i ≥ n
      · rw [if_pos h3, pandectref02_Check.j0, if_pos rfl, Tr.check_false _ _ _ _ _ (.inr (.inr (.inl h3)))]
      · rw [if_neg h3]
        obtain ⟨i, rfl⟩ := Int.eq_ofNat_of_zero_le (show 0 ≤ i by omega)
        obtain ⟨n, rfl⟩ := Int.eq_ofNat_of_zero_le (show 0 ≤ n by omega)
        rw [ref_length n i (k + 1) (by omega) (by omega) (by omega) (by omega), Option.bind_some, ref_digests p hs hp (k + 1) (by omega)]
        simp only [Option.bind_some]
        cases hpr : Tr.proper p with
        | false =>
          rw [Tr.check_false _ _ _ _ _ (.inr (.inr (.inr hpr)))]
          split
          · rw [pandectref02_Check.j0, if_pos (by decide)]
          · rw [pandectref02_Check.j0, if_pos rfl]
        | true =>
          rw [Tr.check_eq r n i x p (by omega) (by omega) hpr]
          by_cases hl : p.length = Tr.len n i
          · rw [if_pos (by omega), pandectref02_Check.j0, if_neg (by decide), ref_leaf x hx k (by omega), Option.bind_some, ref_up n i k (Tr.leaf x) p (by omega) (by omega) (by omega) (by rw [leaf_size]; omega) hs (by omega) (by omega) (by omega), Option.bind_some, toList_beq, decide_eq_true hl]
            rfl
          · rw [if_neg (by omega), pandectref02_Check.j0, if_pos rfl, decide_eq_false hl]
            rfl

end Go.Proofs.YtfhdknjccmcgdaaGreatDoor.P
/- What the functions of the package seal answer, as the print has them: keys, public keys, seals, and when a seal is accepted. -/
namespace Go.Proofs.YtfhdknjccmcgdaaGreatDoor.Sl
open Go Go.Proofs.YtfhdknjccmcgdaaGreatDoor Go.Proofs.YtfhdknjccmcgdaaGreatDoor.Tr
/-- When a seal is accepted. -/
def verify (pub m : ByteArray) (idx : Int) (sig p : List ByteArray) : Bool :=
  if sig.length ≠ 18 ∨ p.length > 8 ∨ proper sig = false ∨ proper p = false ∨ idx < 0 ∨ (2 : Int) ^ p.length ≤ idx then false
  else check pub (2 ^ p.length) idx (Dg.list (fins m sig)) p

theorem two_nat (n : Nat) : ((2 : Int) ^ n) = ((2 ^ n : Nat) : Int) := by simp

theorem verify_true {pub m : ByteArray} {idx : Int} {sig p : List ByteArray} (h : verify pub m idx sig p = true) :
    ∃ i : Nat, idx = i ∧ sig.length = 18 ∧ p.length ≤ 8 ∧ proper sig = true ∧ proper p = true ∧ i < 2 ^ p.length ∧ up (2 ^ p.length) i (leaf (Dg.list (fins m sig))) p = pub := by
  unfold verify at h
  split at h
  · cases h
  · rename_i hg
    have g1 : sig.length = 18 := Classical.byContradiction fun e => hg (.inl e)
    have g2 : p.length ≤ 8 := Classical.byContradiction fun e => hg (.inr (.inl (by omega)))
    have g3 : proper sig = true := by cases hp : proper sig with | true => rfl | false => exact absurd (.inr (.inr (.inl hp))) hg
    have g4 : proper p = true := by cases hp : proper p with | true => rfl | false => exact absurd (.inr (.inr (.inr (.inl hp)))) hg
    have g5 : 0 ≤ idx := Classical.byContradiction fun e => hg (.inr (.inr (.inr (.inr (.inl (by omega))))))
    have g6 : idx < (2 : Int) ^ p.length := Classical.byContradiction fun e => hg (.inr (.inr (.inr (.inr (.inr (by omega))))))
    obtain ⟨i, rfl⟩ := Int.eq_ofNat_of_zero_le g5
    rw [two_nat] at g6 h
    have g7 : i < 2 ^ p.length := by omega
    have h8 : 2 ^ p.length ≤ 256 := by
      have := Nat.pow_le_pow_right (show 0 < 2 by decide) g2
      exact this
    rw [check_eq _ _ _ _ _ (by omega) g7 g4, Bool.and_eq_true] at h
    exact ⟨i, rfl, g1, g2, g3, g4, g7, of_decide_eq_true h.2⟩

theorem verify_own (secret : ByteArray) (h : Nat) (hh : h ≤ 8) (i : Nat) (hi : i < 2 ^ h) (m : ByteArray) : verify (root (keys secret h)) m i (sigOf secret i m) (path (keys secret h) i) = true := by
  have hl : (path (keys secret h) i).length = h := by rw [path_length, keys_length]; exact len_two h (by omega) i hi
  have h8 : 2 ^ h ≤ 256 := Nat.pow_le_pow_right (show 0 < 2 by decide) hh
  unfold verify
  rw [if_neg, hl, two_nat]
  · rw [check_eq _ _ _ _ _ (by omega) hi (path_proper _ _), fins_sigOf, hl, len_two h (by omega) i hi]
    have := up_path (keys secret h) i (by rw [keys_length]; exact hi)
    rw [keys_length, keys_get _ _ _ hi] at this
    unfold key at this
    rw [this]
    simp
  · rw [hl, two_nat, sigOf_length, sigOf_isD, path_proper]
    generalize 2 ^ h = N at hi
    simp
    omega

theorem verify_long (pub m : ByteArray) (idx : Int) (sig p : List ByteArray) (h : (2 : Int) ^ p.length ≤ idx) : verify pub m idx sig p = false := by
  unfold verify
  rw [if_pos (.inr (.inr (.inr (.inr (.inr h)))))]
theorem verify_neg (pub m : ByteArray) (idx : Int) (sig p : List ByteArray) (h : idx < 0) : verify pub m idx sig p = false := by
  unfold verify
  rw [if_pos (.inr (.inr (.inr (.inr (.inl h)))))]
theorem verify_few (pub m : ByteArray) (idx : Int) (sig p : List ByteArray) (h : sig.length ≠ 18) : verify pub m idx sig p = false := by
  unfold verify
  rw [if_pos (.inl h)]
theorem up_isD (n i : Nat) (d : ByteArray) (hd : Dg.isD d = true) (p : List ByteArray) : Dg.isD (up n i d p) = true := by
  by_cases hn : n ≤ 1
  · rw [up_one _ _ _ _ hn]; exact hd
  · by_cases hi : i < half n
    · rw [up_left _ _ _ _ (by omega) hi]; exact Dg.isD_list _
    · rw [up_right _ _ _ _ (by omega) hi]; exact Dg.isD_list _
theorem verify_pub {pub m : ByteArray} {idx : Int} {sig p : List ByteArray} (h : verify pub m idx sig p = true) : Dg.isD pub = true := by
  obtain ⟨i, _, _, _, _, _, _, rfl⟩ := verify_true h
  exact up_isD _ _ _ (Dg.isD_list _) _
end Go.Proofs.YtfhdknjccmcgdaaGreatDoor.Sl

namespace Go.Proofs.YtfhdknjccmcgdaaGreatDoor.P
open Go.RowKit Go.Proofs.YtfhdknjccmcgdaaGreatDoor Go.Proofs.YtfhdknjccmcgdaaGreatDoorW.PrintWords Go.Proofs.YtfhdknjccmcgdaaGreatDoorW.PrintLast Go.Proofs.YtfhdknjccmcgdaaGreatDoorW.PrintMore
set_option linter.unusedVariables false
set_option linter.unusedSimpArgs false

theorem w1 (i : Nat) (h : i ≤ 1000000000000) : wrap64 ((i : Int) + 1) = ((i + 1 : Nat) : Int) := by rw [IntWalk.wrap64_in _ (by omega)]; omega

/-! ### chains, keys -/

theorem chain_loop (n : Nat) (hn : n ≤ 1000) (k : Nat) : ∀ (r i : Nat) (s : ByteArray), i + r = n → s.size ≤ 9223372036854775807 → digest_Chain.l0 (r + 1 + k) s (n : Int) (i : Int) = some (Sl.chain r s) := by
  intro r
  induction r with
  | zero =>
    intro i s hi hs
    rw [show 0 + 1 + k = k + 1 by omega, digest_Chain.l0, if_neg (by omega)]
    rfl
  | succ r ih =>
    intro i s hi hs
    rw [show r + 1 + 1 + k = (r + 1 + k) + 1 by omega, digest_Chain.l0, if_pos (by omega)]
    unfold digest_Sum.f
    rw [if_pos hs, Option.bind_some, w1 i (by omega), ih (i + 1) _ (by omega) (by rw [Dg.sum_size]; decide)]
    rfl

theorem chain_is (s : ByteArray) (n : Nat) (hn : n ≤ 1000) (hs : s.size ≤ 9223372036854775807) (k : Nat) (hk : n < k) : digest_Chain.f k s (n : Int) = some (Sl.chain n s) := by
  obtain ⟨k', rfl⟩ : ∃ k', k = n + 1 + k' := ⟨k - (n + 1), by omega⟩
  unfold digest_Chain.f
  have hm : mx 0 (mn (n : Int) 1000) = (n : Int) := by unfold mx mn; omega
  rw [hm]
  exact chain_loop n hn k' n 0 s (by omega) hs

theorem itoa_is (n : Nat) (h : n ≤ 9223372036854775807) : strconv_Itoa.f (n : Int) = some (Sl.dec n) := by
  unfold strconv_Itoa.f
  rw [if_pos (by omega)]
  rfl

theorem piece_len (s : ByteArray) (h : s.size ≤ 9223372036854775807) : (Dg.piece s).length ≤ s.size + 22 := Dg.piece_le s h

theorem dec_size (n : Nat) (h : n ≤ 9223372036854775807) : (Sl.dec n).size ≤ 21 := by
  have := Lib.itoa_length_le (n : Int) (by omega) (by omega)
  exact this

theorem of_is (l : List ByteArray) (h1 : l.length ≤ 1000) (h2 : ∀ x ∈ l, x.size ≤ 1000) : seal_of.f l = some (Dg.list l) := by
  unfold seal_of.f digest_List.f
  have hj : (Dg.joinedL l).length ≤ l.length * 1022 := by
    clear h1
    induction l with
    | nil => exact Nat.zero_le _
    | cons x l ih =>
      have := ih (fun y hy => h2 y (List.mem_cons_of_mem _ hy))
      have h3 := h2 x List.mem_cons_self
      have h4 := piece_len x (by omega)
      simp only [Dg.joinedL, List.flatMap_cons, List.length_append, List.length_cons] at this ⊢
      omega
  rw [if_pos ⟨by omega, by omega⟩]
  rfl

theorem start_is (secret : ByteArray) (hs : secret.size ≤ 300) (i k : Nat) (hi : i ≤ 1000000) (hk : k ≤ 1000000) : seal_start.f secret (i : Int) (k : Int) = some (Sl.start secret i k) := by
  unfold seal_start.f
  rw [itoa_is i (by omega), Option.bind_some, itoa_is k (by omega), Option.bind_some, of_is _ (by simp) (by
    intro x hx
    have d1 := dec_size i (by omega)
    have d2 := dec_size k (by omega)
    simp only [List.mem_cons, List.not_mem_nil, or_false] at hx
    rcases hx with rfl | rfl | rfl <;> omega)]
  rfl

theorem start_size (secret : ByteArray) (i k : Nat) : (Sl.start secret i k).size = 16 := Dg.list_size _

theorem ends_take (secret : ByteArray) (i j : Nat) (h : j < 18) : (Sl.ends secret i).take (j + 1) = (Sl.ends secret i).take j ++ [Sl.chain 15 (Sl.start secret i j)] := by
  rw [List.take_add_one, List.getElem?_eq_getElem (by rw [Sl.ends_length]; exact h)]
  simp [Sl.ends]

theorem key_loop (secret : ByteArray) (hs : secret.size ≤ 300) (i : Nat) (hi : i ≤ 1000000) (k : Nat) (hk : 20 ≤ k) : ∀ (r j : Nat), j + r = 18 → seal_key.l0 (r + 1 + k) secret (i : Int) ((Sl.ends secret i).take j) (j : Int) = some (Sl.key secret i) := by
  intro r
  induction r with
  | zero =>
    intro j hj
    have : j = 18 := by omega
    subst this
    rw [show 0 + 1 + k = k + 1 by omega, seal_key.l0, if_neg (by omega), List.take_of_length_le (by rw [Sl.ends_length]; omega), of_is _ (by rw [Sl.ends_length]; omega) (by
      intro x hx
      obtain ⟨q, _, rfl⟩ := List.mem_map.1 hx
      rw [Sl.chain_size _ _ (start_size ..)]; omega)]
    rfl
  | succ r ih =>
    intro j hj
    rw [show r + 1 + 1 + k = (r + 1 + k) + 1 by omega, seal_key.l0, if_pos (by omega), start_is secret hs i j hi (by omega), Option.bind_some]
    have hc := chain_is (Sl.start secret i j) 15 (by omega) (by rw [start_size]; omega) (r + 1 + k) (by omega)
    rw [show ((15 : Nat) : Int) = 15 from rfl] at hc
    rw [hc, Option.bind_some, if_pos (by rw [List.length_take]; omega), w1 j (by omega), ← ends_take secret i j (by omega)]
    exact ih (j + 1) (by omega)

theorem key_is (secret : ByteArray) (hs : secret.size ≤ 300) (i : Nat) (hi : i ≤ 1000000) (k : Nat) (hk : 100 ≤ k) : seal_key.f k secret (i : Int) = some (Sl.key secret i) := by
  obtain ⟨k', rfl⟩ : ∃ k', k = 18 + 1 + k' := ⟨k - 19, by omega⟩
  exact key_loop secret hs i hi k' (by omega) 18 0 (by omega)

theorem key_size (secret : ByteArray) (i : Nat) : (Sl.key secret i).size = 16 := Dg.list_size _

theorem keys_loop (secret : ByteArray) (hs : secret.size ≤ 300) (N : Nat) (hN : N ≤ 256) (k : Nat) (hk : 100 ≤ k) : ∀ (r i : Nat), i + r = N →
    seal_keys.l0 (r + 1 + k) secret (((List.range N).map (Sl.key secret)).take i ++ List.replicate r (⟨#[]⟩ : ByteArray)) (N : Int) (i : Int) = some ((List.range N).map (Sl.key secret)) := by
  intro r
  induction r with
  | zero =>
    intro i hi
    rw [show 0 + 1 + k = k + 1 by omega, seal_keys.l0, if_neg (by omega), List.replicate_zero, List.append_nil, List.take_of_length_le (by simp; omega)]
  | succ r ih =>
    intro i hi
    have hlen : (((List.range N).map (Sl.key secret)).take i).length = i := by simp; omega
    rw [show r + 1 + 1 + k = (r + 1 + k) + 1 by omega, seal_keys.l0, if_pos (by omega), key_is secret hs i (by omega) _ (by omega), Option.bind_some, if_pos (by omega), if_pos (by rw [List.length_append, hlen, List.length_replicate]; omega), w1 i (by omega), Int.toNat_natCast]
    have e : ((((List.range N).map (Sl.key secret)).take i ++ List.replicate (r + 1) (⟨#[]⟩ : ByteArray)).set i (Sl.key secret i)) = ((List.range N).map (Sl.key secret)).take (i + 1) ++ List.replicate r (⟨#[]⟩ : ByteArray) := by
      rw [List.set_append_right _ _ (by omega), hlen, Nat.sub_self, List.replicate_succ, List.set_cons_zero, List.take_add_one, List.getElem?_eq_getElem (by simp; omega)]
      simp
    rw [e]
    exact ih (i + 1) (by omega)

theorem shl_two (h : Nat) (hh : h ≤ 8) : shl .i64 1 (h : Int) = ((2 ^ h : Nat) : Int) := by
  unfold shl
  have h1 := pw8 h hh
  rw [Int.toNat_natCast, Nat.min_eq_left (by show h ≤ 64; omega), Int.one_mul, i64_w, IntWalk.wrap64_in _ (by omega), Sl.two_nat]

theorem keys_is (secret : ByteArray) (hs : secret.size ≤ 300) (h : Nat) (hh : h ≤ 8) (k : Nat) (hk : 500 ≤ k) : seal_keys.f k secret (h : Int) = some (Sl.keys secret h) := by
  have h8 : 2 ^ h ≤ 256 := Nat.pow_le_pow_right (show 0 < 2 by decide) hh
  unfold seal_keys.f Sl.keys
  rw [shl_two h hh]
  generalize 2 ^ h = N at h8 ⊢
  rw [if_pos (by omega), if_pos (by omega), Int.toNat_natCast, if_pos (by omega), Option.bind_some, List.length_replicate]
  obtain ⟨k', rfl⟩ : ∃ k', k = N + 1 + k' := ⟨k - (N + 1), by omega⟩
  have := keys_loop secret hs N h8 k' (by omega) N 0 (by omega)
  rw [List.take_zero, List.nil_append] at this
  exact this

theorem keys_small (secret : ByteArray) (h : Nat) : Small (Sl.keys secret h) := by
  intro x hx
  obtain ⟨i, _, rfl⟩ := List.mem_map.1 hx
  rw [key_size]; omega

theorem public_is (secret : ByteArray) (hs : secret.size ≤ 300) (h : Nat) (hh : h ≤ 4) (k : Nat) (hk : 2000 ≤ k) : seal_Public.f k secret (h : Int) = some (Tr.root (Sl.keys secret h), 0) := by
  have h4 : 2 ^ h ≤ 16 := Nat.pow_le_pow_right (show 0 < 2 by decide) hh
  obtain ⟨k, rfl⟩ : ∃ k', k = k' + 1 := ⟨k - 1, by omega⟩
  unfold seal_Public.f
  rw [if_neg (by omega), decide_eq_false (by omega), seal_Public.j0, if_neg (by simp), keys_is secret hs h (by omega) k (by omega), Option.bind_some, root_is _ k (by rw [Sl.keys_length]; omega) (keys_small secret h) (by rw [Sl.keys_length]; omega)]
  rfl

theorem public_bad (secret : ByteArray) (h : Int) (hh : h < 0 ∨ h > 8) (k : Nat) (hk : 1 ≤ k) : seal_Public.f k secret h = some (⟨#[]⟩, 1) := by
  obtain ⟨k, rfl⟩ : ∃ k', k = k' + 1 := ⟨k - 1, by omega⟩
  unfold seal_Public.f
  split
  · rw [seal_Public.j0, if_pos rfl]
  · rw [decide_eq_true (by omega), seal_Public.j0, if_pos rfl]

/-! ### Sign, Verify -/

theorem listF_all (f : Fin 18 → Option ByteArray) (g : Fin 18 → ByteArray) (hg : ∀ x, f x = some (g x)) : ∀ l, listF f l = some (l.map g) := by
  intro l
  induction l with
  | nil => rfl
  | cons x l ih => rw [listF, hg x, Option.bind_some, ih, Option.bind_some]; rfl

theorem fin_map (g : Nat → ByteArray) : (List.finRange 18).map (fun x => g x.1) = (List.range 18).map g := by
  apply List.ext_getElem
  · simp
  · intro i h1 h2
    simp

theorem sign_is (secret m : ByteArray) (hs : secret.size ≤ 300) (hm : m.size ≤ 300) (h : Nat) (hh : h ≤ 4) (i : Nat) (hi : i < 2 ^ h) (k : Nat) (hk : 2000 ≤ k) :
    seal_Sign.f k secret (h : Int) (i : Int) m = some ((i : Int), Sl.sigOf secret i m, Tr.path (Sl.keys secret h) i, 0) := by
  have h4 : 2 ^ h ≤ 16 := Nat.pow_le_pow_right (show 0 < 2 by decide) hh
  unfold seal_Sign.f
  rw [if_neg (by rw [Int.toNat_natCast, Sl.two_nat]; omega), if_pos (by omega)]
  rw [listF_all _ (fun x => Sl.chain (Sl.dg m x.1) (Sl.start secret i x.1)) (by
    intro x
    have h18 := x.2
    have hd := Sl.dg_le m x.1
    unfold sig1
    rw [start_is secret hs i x.1 (by omega) (by omega), Option.bind_some, chain_is _ _ (by omega) (by rw [start_size]; omega) k (by omega)])]
  rw [Option.bind_some, keys_is secret hs h (by omega) k (by omega), Option.bind_some, path_is _ i (by rw [Sl.keys_length]; omega) (keys_small secret h) (by rw [Sl.keys_length]; exact hi) k (by omega), Option.bind_some, fin_map (fun x => Sl.chain (Sl.dg m x) (Sl.start secret i x))]
  rfl

theorem sign_bad_is (secret m : ByteArray) (h i : Int) (hb : h < 0 ∨ h > 8 ∨ i < 0 ∨ i ≥ 2 ^ h.toNat) (k : Nat) : seal_Sign.f k secret h i m = some (0, [], [], 1) := by
  unfold seal_Sign.f
  rw [if_pos hb]

theorem isD_sz {x : ByteArray} {l : List ByteArray} (h : Tr.proper l = true) (hx : x ∈ l) : x.size = 16 := isD_size (List.all_eq_true.1 h x hx)

theorem verify_is (pub m : ByteArray) (hm : m.size ≤ 300) (idx : Int) (sig p : List ByteArray) (k : Nat) (hk : 100 ≤ k) : seal_Verify.f k pub m idx sig p = some (Sl.verify pub m idx sig p) := by
  unfold seal_Verify.f Sl.verify
  split
  · rfl
  · rename_i hg
    have g1 : sig.length = 18 := Classical.byContradiction fun e => hg (.inl e)
    have g2 : p.length ≤ 8 := Classical.byContradiction fun e => hg (.inr (.inl (by omega)))
    have g3 : Tr.proper sig = true := by cases hp : Tr.proper sig with | true => rfl | false => exact absurd (.inr (.inr (.inl hp))) hg
    rw [if_pos (by omega)]
    rw [listF_all _ (fun x => Sl.chain (15 - Sl.dg m x.1) (sig.getD x.1 ByteArray.empty)) (by
      intro x
      have h18 := x.2
      have hd := Sl.dg_le m x.1
      have hz : (sig.getD x.1 ByteArray.empty).size = 16 := by
        rw [List.getD_eq_getElem?_getD, List.getElem?_eq_getElem (by omega)]
        exact isD_sz g3 (List.getElem_mem _)
      unfold ver1
      have e : (15 - (Sl.dg m x.1 : Int)) = ((15 - Sl.dg m x.1 : Nat) : Int) := by omega
      rw [e, chain_is _ _ (by omega) (by rw [hz]; omega) k (by omega)])]
    rw [Option.bind_some, fin_map (fun x => Sl.chain (15 - Sl.dg m x) (sig.getD x ByteArray.empty))]
    have hf : (List.range 18).map (fun x => Sl.chain (15 - Sl.dg m x) (sig.getD x ByteArray.empty)) = Sl.fins m sig := rfl
    rw [hf, of_is _ (by rw [Sl.fins_length]; omega) (by
      intro x hx
      obtain ⟨q, hq, rfl⟩ := List.mem_map.1 hx
      have hq2 : q < 18 := List.mem_range.1 hq
      rw [Sl.chain_size _ _ (by
        rw [List.getD_eq_getElem?_getD, List.getElem?_eq_getElem (by omega)]
        exact isD_sz g3 (List.getElem_mem _))]
      omega), Option.bind_some, check_is _ _ _ _ _ (by omega) (by rw [Dg.list_size]; omega)]

/-! ### the head -/

theorem head_is (k : Nat) (hk : 3000 ≤ k) : pandectlaw03_head.f k = some true := by
  unfold pandectlaw03_head.f
  have hs : wSecret.size ≤ 300 := by decide
  have hm : wMessage.size ≤ 300 := by decide
  have p2 := public_is wSecret hs 2 (by decide) k (by omega)
  have p9 := public_bad wSecret 9 (by decide) k (by omega)
  have s3 := sign_is wSecret wMessage hs hm 2 (by decide) 3 (by decide) k (by omega)
  have s4 := sign_bad_is wSecret wMessage 2 4 (by decide) k
  rw [show ((2 : Nat) : Int) = 2 from rfl] at p2 s3
  rw [show ((3 : Nat) : Int) = 3 from rfl] at s3
  rw [p2, Option.bind_some, p9, Option.bind_some, s3, Option.bind_some, s4, Option.bind_some]
  have hl : (Tr.path (Sl.keys wSecret 2) 3).length = 2 := by rw [Tr.path_length, Sl.keys_length]; exact Sl.len_two 2 (by decide) 3 (by decide)
  unfold head1
  rw [if_pos ⟨rfl, rfl, rfl, rfl, hl, rfl, by rw [Sl.sigOf_length]; decide⟩]
  unfold head2
  have v1 := Sl.verify_own wSecret 2 (by decide) 3 (by decide) wMessage
  rw [show ((3 : Nat) : Int) = 3 from rfl] at v1
  have v2 := Sl.verify_long (Tr.root (Sl.keys wSecret 2)) wMessage 3 (Sl.sigOf wSecret 3 wMessage) ((Tr.path (Sl.keys wSecret 2) 3).take 1) (by rw [List.length_take, hl]; decide)
  have v3 := Sl.verify_few (Tr.root (Sl.keys wSecret 2)) wMessage 3 ((Sl.sigOf wSecret 3 wMessage).drop 1) (Tr.path (Sl.keys wSecret 2) 3) (by rw [List.length_drop, Sl.sigOf_length]; decide)
  have v4 : Sl.verify ⟨#[]⟩ wMessage 3 (Sl.sigOf wSecret 3 wMessage) (Tr.path (Sl.keys wSecret 2) 3) = false := by
    cases hv : Sl.verify ⟨#[]⟩ wMessage 3 (Sl.sigOf wSecret 3 wMessage) (Tr.path (Sl.keys wSecret 2) 3) with
    | false => rfl
    | true =>
      have := isD_size (Sl.verify_pub hv)
      cases this
  rw [verify_is _ _ hm _ _ _ k (by omega), v1, Option.bind_some, verify_is _ _ hm _ _ _ k (by omega), v2, Option.bind_some, verify_is _ _ hm _ _ _ k (by omega), v3, Option.bind_some, verify_is _ _ hm _ _ _ k (by omega), v4, Option.bind_some]
  rfl
end Go.Proofs.YtfhdknjccmcgdaaGreatDoor.P
/- The chapter's printed functions, of both kinds: what they answer. By gen_mref.py. -/
namespace Go.Proofs.YtfhdknjccmcgdaaGreatDoor.P
open Go.RowKit Go.Proofs.YtfhdknjccmcgdaaGreatDoor Go.Proofs.YtfhdknjccmcgdaaGreatDoorW.PrintWords Go.Proofs.YtfhdknjccmcgdaaGreatDoorW.PrintLast Go.Proofs.YtfhdknjccmcgdaaGreatDoorW.PrintMore
set_option linter.unusedVariables false
set_option linter.unusedSimpArgs false

theorem short_loop (l : List ByteArray) (hN : l.length ≤ 100) (k : Nat) : ∀ (r i : Nat), i + r = l.length → (∀ x ∈ l.take i, x.size ≤ 300) → ∃ b, pandectlaw03_short.l0 (r + 1 + k) l (i : Int) = some b ∧ (b = true → ∀ x ∈ l, x.size ≤ 300) := by
  intro r
  induction r with
  | zero =>
    intro i hi ht
    rw [show i = l.length by omega, List.take_length] at ht
    exact ⟨true, by rw [show 0 + 1 + k = k + 1 by omega, pandectlaw03_short.l0, if_neg (by omega)], fun _ => ht⟩
  | succ r ih =>
    intro i hi ht
    rw [show r + 1 + 1 + k = (r + 1 + k) + 1 by omega, pandectlaw03_short.l0, if_pos (by omega), if_pos (by omega), rd_lt l i (by omega), w1 i (by omega)]
    by_cases he : (l[i]'(by omega)).size ≤ 300
    · rw [if_neg (by omega)]
      refine ih (i + 1) (by omega) fun x hx => ?_
      rw [List.take_succ_eq_append_getElem (by omega)] at hx
      rcases List.mem_append.1 hx with h | h
      · exact ht x h
      · rw [List.mem_singleton.1 h]; exact he
    · exact ⟨false, by rw [if_pos (by omega)], fun h => by cases h⟩

theorem short_is (l : List ByteArray) (hN : l.length ≤ 100) (k : Nat) (hk : 200 ≤ k) : ∃ b, pandectlaw03_short.f k l = some b ∧ (b = true → ∀ x ∈ l, x.size ≤ 300) := by
  obtain ⟨k', rfl⟩ : ∃ k', k = l.length + 1 + k' := ⟨k - (l.length + 1), by omega⟩
  exact short_loop l hN k' l.length 0 (by omega) (by simp)

theorem same3_is (i j : Int) (a b c d : List ByteArray) (ha : a.length ≤ 1000) (hb : b.length ≤ 1000) (k : Nat) (hk : 1100 ≤ k) : pandectref03_Same.f k i a b j c d = some (decide (i = j ∧ a = c ∧ b = d)) := by
  unfold pandectref03_Same.f
  by_cases h1 : i = j
  · rw [if_pos h1, same_is a c ha k hk, Option.bind_some]
    by_cases h2 : a = c
    · rw [if_pos (by simp [h2]), same_is b d hb k hk, Option.bind_some]
      simp [h1, h2]
    · rw [if_neg (by simp [h2])]
      simp [h2]
  · rw [if_neg h1]
    simp [h1]

theorem take30 (l : List ByteArray) (i : Nat) (h1 : ∀ x ∈ l.take i, x.size ≤ 100) (h2 : l.length ≤ i ∨ 30 ≤ i) : l.length ≤ 30 → Small l := by
  intro h x hx
  rw [List.take_of_length_le (by omega)] at h1
  exact h1 x hx

theorem few_l1 (idx : Int) (a b : List ByteArray) (ha : ∀ i, (∀ x ∈ a.take i, x.size ≤ 100) → True) (hA : a.length ≤ 30 → Small a) (k : Nat) : ∀ (r i : Nat), i + r = 31 → i ≤ 30 → (∀ x ∈ b.take i, x.size ≤ 100) →
    ∃ c, pandectref03_Few.l1 (2 * r + 4 + k) (i : Int) idx a b = some c ∧ (c = true → a.length ≤ 30 ∧ b.length ≤ 30 ∧ Small a ∧ Small b) := by
  intro r
  induction r with
  | zero => intro i hi h30 _; omega
  | succ r ih =>
    intro i hi h30 ht
    have fin : (b.length ≤ i ∨ 30 ≤ i) → ∀ q, ∃ c, pandectref03_Few.j3 (q + 1) (i : Int) false idx a b = some c ∧ (c = true → a.length ≤ 30 ∧ b.length ≤ 30 ∧ Small a ∧ Small b) := by
      intro hend q
      have hB := take30 b i ht hend
      rw [pandectref03_Few.j3, if_neg (by simp)]
      by_cases h1 : a.length ≤ 30
      · rw [if_pos (by omega)]
        refine ⟨_, rfl, fun h => ?_⟩
        have h2 : b.length ≤ 30 := by have := of_decide_eq_true h; omega
        exact ⟨h1, h2, hA h1, hB h2⟩
      · rw [if_neg (by omega)]
        exact ⟨false, rfl, fun h => by cases h⟩
    rw [show 2 * (r + 1) + 4 + k = (2 * r + 4 + k + 1) + 1 by omega, pandectref03_Few.l1]
    by_cases hlt : i < b.length
    · rw [if_pos (by omega)]
      by_cases hi30 : i < 30
      · rw [decide_eq_true (by omega), pandectref03_Few.j3, if_pos rfl, if_pos (by omega), if_pos (by omega), rd_lt b i hlt, w1 i (by omega)]
        by_cases he : (b[i]'hlt).size ≤ 100
        · rw [if_neg (by omega)]
          refine ih (i + 1) (by omega) (by omega) fun x hx => ?_
          rw [List.take_succ_eq_append_getElem hlt] at hx
          rcases List.mem_append.1 hx with h | h
          · exact ht x h
          · rw [List.mem_singleton.1 h]; exact he
        · exact ⟨false, by rw [if_pos (by omega)], fun h => by cases h⟩
      · rw [decide_eq_false (by omega)]
        exact fin (.inr (by omega)) _
    · rw [if_neg (by omega)]
      exact fin (.inl (by omega)) _

theorem few_l0 (idx : Int) (a b : List ByteArray) (k : Nat) : ∀ (r i : Nat), i + r = 31 → i ≤ 30 → (∀ x ∈ a.take i, x.size ≤ 100) →
    ∃ c, pandectref03_Few.l0 (2 * r + 80 + k) (i : Int) idx a b = some c ∧ (c = true → a.length ≤ 30 ∧ b.length ≤ 30 ∧ Small a ∧ Small b) := by
  intro r
  induction r with
  | zero => intro i hi h30 _; omega
  | succ r ih =>
    intro i hi h30 ht
    have fin : (a.length ≤ i ∨ 30 ≤ i) → ∀ q, 70 ≤ q → ∃ c, pandectref03_Few.j1 (q + 1) (i : Int) false idx a b = some c ∧ (c = true → a.length ≤ 30 ∧ b.length ≤ 30 ∧ Small a ∧ Small b) := by
      intro hend q hq
      have hA := take30 a i ht hend
      rw [pandectref03_Few.j1, if_neg (by simp)]
      have := few_l1 idx a b (fun _ _ => trivial) hA (q - 66) 31 0 (by omega) (by omega) (by simp)
      rw [show 2 * 31 + 4 + (q - 66) = q by omega] at this
      exact this
    rw [show 2 * (r + 1) + 80 + k = (2 * r + 80 + k + 1) + 1 by omega, pandectref03_Few.l0]
    by_cases hlt : i < a.length
    · rw [if_pos (by omega)]
      by_cases hi30 : i < 30
      · rw [decide_eq_true (by omega), pandectref03_Few.j1, if_pos rfl, if_pos (by omega), if_pos (by omega), rd_lt a i hlt, w1 i (by omega)]
        by_cases he : (a[i]'hlt).size ≤ 100
        · rw [if_neg (by omega)]
          refine ih (i + 1) (by omega) (by omega) fun x hx => ?_
          rw [List.take_succ_eq_append_getElem hlt] at hx
          rcases List.mem_append.1 hx with h | h
          · exact ht x h
          · rw [List.mem_singleton.1 h]; exact he
        · exact ⟨false, by rw [if_pos (by omega)], fun h => by cases h⟩
      · rw [decide_eq_false (by omega)]
        exact fin (.inr (by omega)) _ (by omega)
    · rw [if_neg (by omega)]
      exact fin (.inl (by omega)) _ (by omega)

theorem few3_is (idx : Int) (a b : List ByteArray) (k : Nat) (hk : 200 ≤ k) : ∃ c, pandectref03_Few.f k idx a b = some c ∧ (c = true → a.length ≤ 30 ∧ b.length ≤ 30 ∧ Small a ∧ Small b) := by
  have := few_l0 idx a b (k - 142) 31 0 (by omega) (by omega) (by simp)
  rw [show 2 * 31 + 80 + (k - 142) = k by omega] at this
  exact this


theorem sum_is (s : ByteArray) (h : s.size ≤ 700) (k : Nat) (hk : 1500 ≤ k) : pandectref01_Sum.f k s = some (Dg.sum s) := ref_sum s (by omega) k (by omega)

theorem joined_sz (l : List ByteArray) (c : Nat) (h : ∀ x ∈ l, x.size ≤ c) (hc : c ≤ 1000) : (Dg.joinedL l).length ≤ l.length * (c + 22) := by
  induction l with
  | nil => exact Nat.zero_le _
  | cons x l ih =>
    have := ih (fun y hy => h y (List.mem_cons_of_mem _ hy))
    have h3 := h x List.mem_cons_self
    have h4 := piece_len x (by omega)
    simp only [Dg.joinedL, List.flatMap_cons, List.length_append, List.length_cons] at this ⊢
    have h5 : (l.length + 1) * (c + 22) = l.length * (c + 22) + (c + 22) := by rw [Nat.succ_mul]
    omega

theorem power_loop (h : Nat) (hh : h ≤ 8) (k : Nat) : ∀ (r i : Nat), i + r = h → pandectref03_Power.l0 (r + 1 + k) (h : Int) ((2 ^ i : Nat) : Int) (i : Int) = some ((2 ^ h : Nat) : Int) := by
  intro r
  induction r with
  | zero =>
    intro i hi
    rw [show 0 + 1 + k = k + 1 by omega, pandectref03_Power.l0, if_neg (by omega), show i = h by omega]
  | succ r ih =>
    intro i hi
    have h8 : 2 ^ i ≤ 256 := Nat.pow_le_pow_right (show 0 < 2 by decide) (show i ≤ 8 by omega)
    have e : wrap64 (2 * ((2 ^ i : Nat) : Int)) = ((2 ^ (i + 1) : Nat) : Int) := by
      rw [Nat.pow_succ]
      generalize 2 ^ i = z at h8 ⊢
      rw [IntWalk.wrap64_in _ (by omega)]
      omega
    rw [show r + 1 + 1 + k = (r + 1 + k) + 1 by omega, pandectref03_Power.l0, if_pos (by omega), e, w1 i (by omega)]
    exact ih (i + 1) (by omega)

theorem power_is (h : Nat) (hh : h ≤ 8) (k : Nat) (hk : 10 ≤ k) : pandectref03_Power.f k (h : Int) = some ((2 ^ h : Nat) : Int) := by
  obtain ⟨k', rfl⟩ : ∃ k', k = h + 1 + k' := ⟨k - (h + 1), by omega⟩
  exact power_loop h hh k' h 0 (by omega)


theorem digit_hv (c : UInt8) (h : Dg.hexset.contains c = true) (k : Nat) : pandectref01_Digit.f (k + 1) (c.toNat : Int) = some ((Sl.hv c : Nat) : Int) := by
  have hm : c ∈ Dg.hexset := by simpa using h
  simp only [Dg.hexset, List.mem_cons, List.not_mem_nil, or_false] at hm
  rcases hm with rfl | rfl | rfl | rfl | rfl | rfl | rfl | rfl | rfl | rfl | rfl | rfl | rfl | rfl | rfl | rfl <;> rfl

def digI (m : ByteArray) : List Int := (Sl.digs m).map fun (d : Nat) => (d : Int)

theorem digI_length (m : ByteArray) : (digI m).length = 18 := by unfold digI; rw [List.length_map, Sl.digs_length]

theorem digI_rd (m : ByteArray) (q : Nat) (h : q < 18) : rd (digI m) (q : Int) = ((Sl.dg m q : Nat) : Int) := by
  show (digI m).getD (q : Int).toNat 0 = _
  rw [Int.toNat_natCast]
  unfold digI Sl.dg
  rw [List.getD_eq_getElem?_getD, List.getD_eq_getElem?_getD, List.getElem?_map, List.getElem?_eq_getElem (by rw [Sl.digs_length]; exact h)]
  rfl

theorem dig_step (R R2 d : Nat) (h : R2 = R + (15 - d)) (hd : d ≤ 15) (hr : R ≤ 1000) : wrap64 ((R : Int) + 15) = ((R + 15 : Nat) : Int) ∧ wrap64 (((R + 15 : Nat) : Int) - (d : Int)) = (R2 : Int) := by
  rw [IntWalk.wrap64_in _ (by omega), IntWalk.wrap64_in _ (by omega)]
  omega

theorem dig_end (R a b : Nat) (ha : a = R / 16) (hb : b = R % 16) (hr : R ≤ 1000) : wrap64 (Int.tdiv (R : Int) 16) = (a : Int) ∧ Int.tmod (R : Int) 16 = (b : Int) := by
  rw [Int.tdiv_eq_ediv_of_nonneg (by omega), Int.tmod_eq_emod_of_nonneg (by omega), IntWalk.wrap64_in _ (by omega)]
  omega

theorem digits_loop (m : ByteArray) (k : Nat) (hk : 1 ≤ k) : ∀ (r i : Nat), i + r = 16 → pandectref03_Digits.l0 (r + 1 + k) (Dg.sum m) ((digI m).take i) (restTo m i : Int) (i : Int) = some (digI m) := by
  intro r
  induction r with
  | zero =>
    intro i hi
    have : i = 16 := by omega
    subst this
    have hsz := Dg.sum_size m
    have hr := restTo_le m 16
    obtain ⟨e1, e2⟩ := dig_end (restTo m 16) _ _ (dg_16 m) (dg_17 m) (Nat.le_trans hr (by decide))
    have e3 : (digI m).take 16 ++ [((Sl.dg m 16 : Nat) : Int), ((Sl.dg m 17 : Nat) : Int)] = digI m := by
      have g : ∀ q, q < 18 → (digI m)[q]? = some ((Sl.dg m q : Nat) : Int) := fun q hq => by
        unfold digI Sl.dg
        rw [List.getElem?_map, List.getD_eq_getElem?_getD, List.getElem?_eq_getElem (by rw [Sl.digs_length]; exact hq)]
        rfl
      have hl := digI_length m
      have t17 : (digI m).take 17 = (digI m).take 16 ++ [((Sl.dg m 16 : Nat) : Int)] := by rw [List.take_add_one, g 16 (by omega)]; rfl
      have t18 : (digI m).take 18 = (digI m).take 17 ++ [((Sl.dg m 17 : Nat) : Int)] := by rw [List.take_add_one, g 17 (by omega)]; rfl
      rw [List.take_of_length_le (by omega), t17, List.append_assoc] at t18
      exact t18.symm
    rw [show 0 + 1 + k = k + 1 by omega, pandectref03_Digits.l0, if_neg (by omega), e1, e2, Option.bind_some, if_pos (by rw [List.length_take, digI_length]; simp), e3]
  | succ r ih =>
    intro i hi
    have hsz := Dg.sum_size m
    have hi2 : i < (Dg.sum m).data.toList.length := by
      have : (Dg.sum m).data.toList.length = (Dg.sum m).size := rfl
      omega
    have h1 := dg_low m i (by omega)
    unfold Sl.dl at h1
    rw [List.getElem?_map, List.getElem?_eq_getElem hi2] at h1
    simp only [Option.map_some, Option.some.injEq] at h1
    have hd := Sl.dg_le m i
    have hr := restTo_le m i
    have hr2 := restTo_succ m i (by omega)
    obtain ⟨k2, rfl⟩ : ∃ k2, k = k2 + 1 := ⟨k - 1, by omega⟩
    have hx : Dg.hexset.contains ((Dg.sum m).data.toList[i]'hi2) = true := List.all_eq_true.1 (Sl.sum_all m) _ (List.getElem_mem hi2)
    obtain ⟨e1, e2⟩ := dig_step (restTo m i) (restTo m (i + 1)) (Sl.dg m i) hr2 hd (Nat.le_trans hr (by omega))
    clear hr2 hr hd
    have e3 : (digI m).take i ++ [((Sl.dg m i : Nat) : Int)] = (digI m).take (i + 1) := by
      rw [List.take_add_one]
      unfold digI Sl.dg
      rw [List.getElem?_map, List.getD_eq_getElem?_getD, List.getElem?_eq_getElem (by rw [Sl.digs_length]; omega)]
      rfl
    rw [show r + 1 + 1 + (k2 + 1) = (r + 1 + (k2 + 1)) + 1 by omega, pandectref03_Digits.l0, if_pos (by omega), if_pos (by omega), bt_getElem _ i hi2, show r + 1 + (k2 + 1) = (r + 1 + k2) + 1 by omega, digit_hv _ hx, h1, Option.bind_some, if_pos (by rw [List.length_take, digI_length]; omega), e1, e2, e3, w1 i (by omega)]
    exact ih (i + 1) (by omega)

theorem digits_is (m : ByteArray) (hm : m.size ≤ 300) (k : Nat) (hk : 2000 ≤ k) : pandectref03_Digits.f k m = some (digI m) := by
  unfold pandectref03_Digits.f
  rw [sum_is m (by omega) k (by omega), Option.bind_some]
  obtain ⟨k', rfl⟩ : ∃ k', k = 16 + 1 + k' := ⟨k - 17, by omega⟩
  exact digits_loop m k' (by omega) 16 0 (by omega)

theorem dec_is (u k : Nat) (hk : u < k) (hu : u ≤ 100000000000) : pandectref01_Decimal.f k (u : Int) = some (Sl.dec u) := by
  obtain ⟨t, e, h⟩ := ref_decimal u k hk hu
  rw [e]
  have : t = Sl.dec u := ByteArray.ext (Array.toList_inj.1 (by rw [h]; rfl))
  rw [this]

theorem dec_small : ∀ u : Nat, u < 18 → (Lib.itoa (u : Int)).length ≤ 2 := by decide +kernel

theorem dec_sz (u : Nat) (h : u < 18) : (Sl.dec u).size ≤ 2 := dec_small u h

theorem startText_is (secret : ByteArray) (hs : secret.size ≤ 300) (i j : Nat) (hi : i < 18) (hj : j < 18) (k : Nat) (hk : 2000 ≤ k) : pandectref01_Joined.f k [secret, Sl.dec i, Sl.dec j] = some (Sl.startText secret i j) ∧ (Sl.startText secret i j).size ≤ 400 := by
  have d1 := dec_sz i hi
  have d2 := dec_sz j hj
  have p1 := piece_len secret (by omega)
  have p2 := piece_len (Sl.dec i) (by omega)
  have p3 := piece_len (Sl.dec j) (by omega)
  have hj : (Dg.joinedL [secret, Sl.dec i, Sl.dec j]).length ≤ 400 := by
    simp only [Dg.joinedL, List.flatMap_cons, List.flatMap_nil, List.length_append, List.length_nil]
    omega
  exact ⟨ref_joined _ (by simp) (by omega) k (by omega), hj⟩

theorem joined18_is (l : List ByteArray) (h : l.length = 18) (hs : ∀ x ∈ l, x.size ≤ 16) (k : Nat) (hk : 3000 ≤ k) : pandectref01_Joined.f k l = some (Dg.joined l) ∧ (Dg.joined l).size ≤ 700 := by
  have hj := joined_sz l 16 hs (by omega)
  rw [h] at hj
  exact ⟨ref_joined l (by omega) (by omega) k (by omega), Nat.le_trans hj (by omega)⟩

theorem ends_sz (secret : ByteArray) (i : Nat) : ∀ x ∈ Sl.ends secret i, x.size ≤ 16 := by
  intro x hx
  obtain ⟨q, _, rfl⟩ := List.mem_map.1 hx
  rw [Sl.chain_size _ _ (start_size ..)]; omega

theorem fins_take (m : ByteArray) (sig : List ByteArray) (j : Nat) (h : j < 18) : (Sl.fins m sig).take (j + 1) = (Sl.fins m sig).take j ++ [Sl.chain (15 - Sl.dg m j) (sig.getD j ByteArray.empty)] := by
  rw [List.take_add_one, List.getElem?_eq_getElem (by rw [Sl.fins_length]; exact h)]
  simp [Sl.fins]

theorem sig_sz (sig : List ByteArray) (hl : sig.length = 18) (hp : Tr.proper sig = true) (j : Nat) (hj : j < 18) : (sig.getD j ByteArray.empty).size = 16 := by
  rw [List.getD_eq_getElem?_getD, List.getElem?_eq_getElem (by omega)]
  exact isD_sz hp (List.getElem_mem _)

theorem fins_sz (m : ByteArray) (sig : List ByteArray) (hl : sig.length = 18) (hp : Tr.proper sig = true) : ∀ x ∈ Sl.fins m sig, x.size ≤ 16 := by
  intro x hx
  obtain ⟨q, hq, rfl⟩ := List.mem_map.1 hx
  rw [Sl.chain_size _ _ (sig_sz sig hl hp q (List.mem_range.1 hq))]; omega

theorem some_bind {α β : Type} (a : α) (f : α → Option β) : (some a).bind f = f a := rfl

theorem path_sz (secret : ByteArray) (h i : Nat) (hh : h ≤ 8) (hi : i < 2 ^ h) : (Tr.path (Sl.keys secret h) i).length = h := by
  rw [Tr.path_length, Sl.keys_length]; exact Sl.len_two h (by omega) i hi

end Go.Proofs.YtfhdknjccmcgdaaGreatDoor.P
