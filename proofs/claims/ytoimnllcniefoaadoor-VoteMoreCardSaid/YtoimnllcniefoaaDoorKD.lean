import Derived.Test.YtoimnllcniefoaaDoorKW
import Derived.Test.YtoimnllcniefoaaDoorProg
import Derived.WalkSmall
import Derived.Lib.LaidTab
import Derived.Lib.ItoaNum
import Derived.KernelRfl
import Derived.Laws.Bits64b
import Derived.Lib.Strings
import Derived.Shelf.Strings.Builder1
import Derived.Shelf.Strings.Trim
import Derived.Shelf.Small.Utf8
import Derived.Shelf.Small.Strs
import Derived.Shelf.Strings.BuilderF
import Derived.Shelf.Strings.BuilderK
import Derived.Shelf.Strconv.Itoa0
import Derived.Shelf.Strconv.Itoa1
import Derived.Shelf.LaysM
import Derived.Shelf.Strconv.Itoa2
import Derived.Shelf.Strconv.Itoa3
import Derived.Shelf.Strings.Search1
import Derived.Shelf.Strings.Runes
import Derived.Shelf.Strings.AsciiSet
import Derived.Shelf.Bits.Mul64
import Derived.Shelf.Unicode.DecodeSlow
import Derived.Shelf.Strings.BuilderCap
import Derived.Ground.Names2Prog
import Derived.Shelf.Slices.ReverseS
import Derived.Shelf.Slices.Clone
import Derived.Shelf.Slices.Cells
import Derived.Ground.SlgnProg
import Derived.Shelf.SlicesE.Clone
import Derived.WalkKit
import Derived.WalkSpells
import Derived.WalkLawsBesides
import Derived.OneCell
import Derived.Lib.BufferWrite
import Derived.Lib.SlBuf
import Derived.Lib.Hide
import Derived.Deep.DeepCutAuto
import Derived.Deep.WholeRow
import Derived.Lib.PathFns
import Derived.Laws.IdiomStrings
import Derived.Lib.ItoaLen
import Derived.Shelf.RegionOpenPlain
import Derived.Shelf.Lays
import Derived.Lib.Slices
import Derived.Lib.Walk
import Derived.Lib.Builder
import Derived.Lib.AppendStr
import Derived.Lib.UnsafeStr
import Derived.Lib.MakeNoZero
import Derived.Laws.Externs
import Derived.Laws.IdiomCopy
import Derived.Laws.BitsLemmas
import Derived.Test.YtoimnllcniefoaaDoorKPx0
import Derived.Lib.AppendIntMem
import Derived.Shelf.Strings.SlTrimAscii
import Derived.Laws.MakeOwn
import Derived.OwnWalk
set_option linter.unusedVariables false
set_option linter.unusedSimpArgs false
/- What stands in a world stands in a world that new blocks and draws alone have made of it: one word for a row, a read slice, a frame. -/
namespace Go.Proofs.YtoimnllcniefoaaDoor.P
open Go.RowKit Go.Proofs.YtoimnllcniefoaaDoorW.PrintWords Go.Proofs.YtoimnllcniefoaaDoorW.PrintLast Go.Proofs.YtoimnllcniefoaaDoorW.PrintMore

/-- W is w, new blocks and draws. -/
structure UpS (w W : World) : Prop where
  b : Below w.heap.size w W
theorem upOf {w W : World} (h : Nonempty (UpS w W)) : Below w.heap.size w W := h.elim fun u => u.b
instance upRefl (w : World) : Nonempty (UpS w w) := ⟨⟨Below.refl _ _⟩⟩
instance upAlloc (w W : World) (o : Obj) [h : Nonempty (UpS w W)] : Nonempty (UpS w (W.alloc o)) := ⟨⟨below_alloc (upOf h) o⟩⟩
instance upDrewN (w W : World) (n : Nat) [h : Nonempty (UpS w W)] : Nonempty (UpS w (W.drewN n)) := ⟨⟨pw_below_drewN (upOf h) n⟩⟩
instance upDrew (w W : World) [h : Nonempty (UpS w W)] : Nonempty (UpS w W.drew) := ⟨⟨below_drew (upOf h)⟩⟩
theorem upB {w0 w W : World} (h : Below w0.heap.size w0 w) [u : Nonempty (UpS w W)] : Below w0.heap.size w0 W := h.trans ((upOf u).mono h.size)
section
variable {α : Type} {d : Kd α} {e : Nat} {w W : World} {base : Nat} {ok : Nat → Prop} {v : Value} {xs : List α}
theorem upR (h : d.R e w base ok v xs) [u : Nonempty (UpS w W)] : d.R e W base ok v xs := Kd.R_below h (upOf u)
theorem upC {A : Option Addr} {n : Nat} (h : d.C w A n xs) [u : Nonempty (UpS w W)] : d.C W A n xs := Kd.C_below h (upOf u)
theorem upV (h : Kd.V d e w base ok v xs) [u : Nonempty (UpS w W)] : Kd.V d e W base ok v xs := Kd.V_below h (upOf u)
end
end Go.Proofs.YtoimnllcniefoaaDoor.P
/- The package-level table that strconv.Itoa reads, as a fact on a world, and that it stays so while only new memory is made. -/
namespace Go.Proofs.YtoimnllcniefoaaDoor.P
open Go.RowKit

/-- The table internal/strconv.uint64pow10 holds the powers of ten. -/
def Tabs (w : World) : Prop := Lib.TabIs Tryd.prog w "internal/strconv.uint64pow10" .u64 Lib.pow10Tab

theorem tabs_global : Tryd.prog.globalNamed "internal/strconv.uint64pow10" = some 1 := by kernel_rfl

theorem tabs_below {w w' : World} (h : Tabs w) (hb : Below w.heap.size w w') : Tabs w' := by
  unfold Tabs Lib.TabIs at h ⊢
  have hlt : 1 < w.heap.size := by
    rcases Nat.lt_or_ge 1 w.heap.size with h' | h'
    · exact h'
    · unfold World.var? at h
      simp only [tabs_global, Option.bind_some, Array.getElem?_eq_none h'] at h
      cases h
  exact var?_below hb tabs_global hlt h
end Go.Proofs.YtoimnllcniefoaaDoor.P
/- The digest of a text, as plain functions on numbers and lists of bytes; no program and no memory. -/
namespace Go.Proofs.YtoimnllcniefoaaDoor.Dg
open Go

theorem xor_u64 (a b : Nat) (ha : a < 18446744073709551616) (hb : b < 18446744073709551616) :
    bits .xor .u64 (a : Int) (b : Int) = ((a ^^^ b : Nat) : Int) := by
  have hx : a ^^^ b < 2 ^ 64 := Nat.xor_lt_two_pow (by omega) (by omega)
  have h1 : (BitVec.ofInt 64 (a : Int)).toNat = a := by
    rw [BitVec.ofInt_natCast, BitVec.toNat_ofNat]; exact Nat.mod_eq_of_lt (by omega)
  have h2 : (BitVec.ofInt 64 (b : Int)).toNat = b := by
    rw [BitVec.ofInt_natCast, BitVec.toNat_ofNat]; exact Nat.mod_eq_of_lt (by omega)
  show IntKind.u64.wrap ((BitVec.ofInt 64 (a : Int) ^^^ BitVec.ofInt 64 (b : Int)).toNat : Int) = _
  rw [BitVec.toNat_xor, h1, h2, IntKind.wrap_u64]
  omega

theorem xor_lt (a b : Nat) (ha : a < 18446744073709551616) (hb : b < 18446744073709551616) : a ^^^ b < 18446744073709551616 :=
  Nat.xor_lt_two_pow (n := 64) (by omega) (by omega)

/-- A byte behind a number whose last eight bits are zero: '|' is '+'. -/
theorem or_byte (n : Nat) (b : Nat) (hn : n < 72057594037927936) (hb : b < 256) :
    bits .or .u64 ((n * 256 : Nat) : Int) (b : Int) = ((n * 256 + b : Nat) : Int) := by
  rw [bits_or_u64_nat _ _ (by omega) (by omega)]
  congr 1
  have h := Nat.shiftLeft_add_eq_or_of_lt (i := 8) (by omega : b < 2 ^ 8) n
  rw [Nat.shiftLeft_eq] at h
  exact h.symm

def mix (x : Nat) : Nat :=
  (((x * 6364136223846793005 % 18446744073709551616) ^^^ (x * 6364136223846793005 % 18446744073709551616 / 2147483648)) * 3202034522624059733 % 18446744073709551616) ^^^
  (((x * 6364136223846793005 % 18446744073709551616) ^^^ (x * 6364136223846793005 % 18446744073709551616 / 2147483648)) * 3202034522624059733 % 18446744073709551616 / 1073741824)

theorem mix_lt (x : Nat) : mix x < 18446744073709551616 := by
  unfold mix
  apply xor_lt <;> omega

/-- The number of the next n bytes, a missing one as 0. -/
def blk (acc : Nat) : Nat → List UInt8 → Nat
  | 0, _ => acc
  | n + 1, [] => blk (acc * 256) n []
  | n + 1, b :: r => blk (acc * 256 + b.toNat) n r

/-- n rounds of eight bytes each, and the last one. -/
def fin : Nat → Nat → List UInt8 → Nat
  | 0, st, l => mix (st ^^^ blk 0 8 l)
  | n + 1, st, l => fin n (mix (st ^^^ blk 0 8 l)) (l.drop 8)

def hexd (d : Nat) : UInt8 := if d < 10 then UInt8.ofNat (48 + d) else UInt8.ofNat (87 + d)
def hex (st : Nat) : List UInt8 := (List.range 16).map fun i => hexd (st / 2 ^ (60 - 4 * i) % 16)
def state (l : List UInt8) : Nat := fin (l.length / 8) (1442695040888963407 ^^^ l.length) l
def sumL (l : List UInt8) : List UInt8 := hex (state l)
def sum (s : ByteArray) : ByteArray := ⟨(sumL s.data.toList).toArray⟩

theorem fin_lt (n st : Nat) (l : List UInt8) : fin n st l < 18446744073709551616 := by
  induction n generalizing st l with
  | zero => exact mix_lt _
  | succ n ih => exact ih _ _

theorem state_lt (l : List UInt8) : state l < 18446744073709551616 := fin_lt _ _ _

theorem hex_length (st : Nat) : (hex st).length = 16 := by simp [hex]
theorem sumL_length (l : List UInt8) : (sumL l).length = 16 := hex_length _
theorem sum_size (s : ByteArray) : (sum s).size = 16 := by
  show (sumL s.data.toList).toArray.size = 16
  simp [sumL_length]

/-- The byte at a place, 0 behind the end. -/
def at0 (l : List UInt8) (k : Nat) : Nat := (l.getD k 0).toNat
theorem at0_lt (l : List UInt8) (k : Nat) : at0 l k < 256 := by
  unfold at0
  have := (l.getD k 0).toNat_lt
  omega

/-- The number of the first k bytes. -/
def upto (l : List UInt8) : Nat → Nat
  | 0 => 0
  | k + 1 => upto l k * 256 + at0 l k

theorem upto_lt (l : List UInt8) (k : Nat) : upto l k < 256 ^ k := by
  induction k with
  | zero => simp [upto]
  | succ k ih =>
    have h := at0_lt l k
    rw [Nat.pow_succ]
    generalize 256 ^ k = p at ih ⊢
    simp only [upto]
    omega

theorem blk_upto (n k : Nat) (l : List UInt8) : blk (upto l k) n (l.drop k) = upto l (k + n) := by
  induction n generalizing k with
  | zero => simp [blk]
  | succ n ih =>
    have e : k + (n + 1) = (k + 1) + n := by omega
    rw [e, ← ih (k + 1)]
    by_cases h : k < l.length
    · rw [List.drop_eq_getElem_cons h]
      simp only [blk, upto, at0]
      congr 1
      simp [List.getD, List.getElem?_eq_getElem h]
    · have h1 : l.drop k = [] := List.drop_of_length_le (by omega)
      have h2 : l.drop (k + 1) = [] := List.drop_of_length_le (by omega)
      have h3 : at0 l k = 0 := by
        unfold at0
        rw [List.getD, List.getElem?_eq_none (by omega : l.length ≤ k)]
        rfl
      rw [h1, h2]
      simp only [blk, upto, h3, Nat.add_zero]

theorem blk_eq (l : List UInt8) : blk 0 8 l = upto l 8 := by
  have := blk_upto 8 0 l
  simpa [upto] using this

end Go.Proofs.YtoimnllcniefoaaDoor.Dg
/-
  DERIVED: THE SHELF's CONTRACTS AT THIS DUMP, IN PLAIN WORDS (tools/lay-plain.mjs out of 'YtoimnllcniefoaaDoorShelf.lean', which tools/lay-shelf.mjs wrote): THE SAME DECLARATIONS UNDER THE SAME NAMES: 'import', 'namespace', 'open', 'def', 'theorem' AND NOTHING ELSE: no command of the shelf's: FOR A HAND-IN. Each laying: the table of numbers ('.._ren') and one theorem, a field a fact of the dump's own or the kernel's comparison; each contract: ONE APPLICATION.
-/
namespace Go.Proofs
open Go.Shelf
def Tryd.lays169_ren : Go.Shelf.Ren := ⟨fun | 169 => 79 | n => n, fun | 70 => 114 | 9 => 9 | 0 => 0 | 72 => 116 | 37 => 79 | 127 => 127 | 3 => 3 | 5 => 5 | n => n, fun | n => n⟩
theorem Tryd.lays169 : Go.Proofs.Lays.n169 Tryd.prog Tryd.lays169_ren := {
  mixed := by kernel_rfl
  f169 := Tryd.func79.trans (congrArg some (by kernel_rfl))
  t0 := Tryd.underlying0
  a0 := Tryd.isAgg0
  z0 := Tryd.sizeOf0
  v0 := Tryd.zeroValue0
  t3 := Tryd.underlying3
  a3 := Tryd.isAgg3
  z3 := Tryd.sizeOf3
  v3 := Tryd.zeroValue3
  t9 := Tryd.underlying9
  a9 := Tryd.isAgg9
  z9 := Tryd.sizeOf9
  v9 := Tryd.zeroValue9
  t37 := Tryd.underlying79
  a37 := Tryd.isAgg79
  z37 := Tryd.sizeOf79
  v37 := Tryd.zeroValue79
  t70 := Tryd.underlying114
  a70 := Tryd.isAgg114
  z70 := Tryd.sizeOf114
  v70 := Tryd.zeroValue114
  t72 := Tryd.underlying116
  a72 := Tryd.isAgg116
  z72 := Tryd.sizeOf116
  v72 := Tryd.zeroValue116
  t127 := Tryd.underlying127
  a127 := Tryd.isAgg127
  z127 := Tryd.sizeOf127
  v127 := Tryd.zeroValue127 }
theorem Tryd.Builder_Extra_169 : Builder.Extra Tryd.prog Tryd.lays169_ren := {
  sizeBuilder := by kernel_rfl
  liesBuilder := by kernel_rfl
  t5 := Tryd.underlying5
  a5 := Tryd.isAgg5
  z5 := Tryd.sizeOf5
  v5 := Tryd.zeroValue5
  infoByte := by kernel_rfl
  cellsByte := by kernel_rfl
  sizeByte := by kernel_rfl
  neB5 := by decide }
open Go.RowKit in
/-- (*strings.Builder).String: "String returns the accumulated string.": WHATEVER THE BUILDER HOLDS. (LAID: no walk: one application.) -/
theorem Tryd.Builder_String_any (B b : Nat) (l : List UInt8) (w : World) (h : Lib.IsBuilder 116 5 B b (Lib.byteCells l) w) (hBw : B ≤ w.heap.size) :
    Calls Tryd.prog 79 #[.pointer (some ⟨b, 0, none⟩)] w fun e w' => e = .returned (.string ⟨l.toArray⟩) ∧ Below B w w' := Any.Builder_String_any Tryd.lays169 Tryd.Builder_Extra_169 B b l w h hBw
def Tryd.lays160_ren : Go.Shelf.Ren := ⟨fun | 160 => 49 | 232 => 72 | 231 => 71 | 227 => 73 | 234 => 75 | 233 => 74 | 236 => 77 | 235 => 76 | 228 => 85 | 271 => 88 | 151 => 87 | 197 => 86 | 120 => 98 | 152 => 97 | 260 => 96 | 137 => 59 | 119 => 105 | 224 => 106 | 225 => 107 | 217 => 80 | 266 => 90 | n => n, fun | 9 => 9 | 4 => 4 | 3 => 3 | 5 => 5 | 117 => 110 | 116 => 109 | 0 => 0 | 124 => 113 | 21 => 21 | 105 => 124 | 46 => 82 | 119 => 143 | 139 => 146 | 138 => 145 | n => n, fun | 3 => 2 | 4 => 3 | n => n⟩
theorem Tryd.lays160 : Go.Proofs.Lays.n160 Tryd.prog Tryd.lays160_ren := {
  mixed := by kernel_rfl
  f119 := Tryd.func105.trans (congrArg some (by kernel_rfl))
  f120 := Tryd.func98.trans (congrArg some (by kernel_rfl))
  f137 := Tryd.func59.trans (congrArg some (by kernel_rfl))
  f151 := Tryd.func87.trans (congrArg some (by kernel_rfl))
  f152 := Tryd.func97.trans (congrArg some (by kernel_rfl))
  f160 := Tryd.func49.trans (congrArg some (by kernel_rfl))
  f197 := Tryd.func86.trans (congrArg some (by kernel_rfl))
  f217 := Tryd.func80.trans (congrArg some (by kernel_rfl))
  f224 := Tryd.func106.trans (congrArg some (by kernel_rfl))
  f225 := Tryd.func107.trans (congrArg some (by kernel_rfl))
  f227 := Tryd.func73.trans (congrArg some (by kernel_rfl))
  f228 := Tryd.func85.trans (congrArg some (by kernel_rfl))
  f231 := Tryd.func71.trans (congrArg some (by kernel_rfl))
  f232 := Tryd.func72.trans (congrArg some (by kernel_rfl))
  f233 := Tryd.func74.trans (congrArg some (by kernel_rfl))
  f234 := Tryd.func75.trans (congrArg some (by kernel_rfl))
  f235 := Tryd.func76.trans (congrArg some (by kernel_rfl))
  f236 := Tryd.func77.trans (congrArg some (by kernel_rfl))
  f260 := Tryd.func96.trans (congrArg some (by kernel_rfl))
  f266 := Tryd.func90.trans (congrArg some (by kernel_rfl))
  f271 := Tryd.func88.trans (congrArg some (by kernel_rfl))
  t0 := Tryd.underlying0
  a0 := Tryd.isAgg0
  z0 := Tryd.sizeOf0
  v0 := Tryd.zeroValue0
  t3 := Tryd.underlying3
  a3 := Tryd.isAgg3
  z3 := Tryd.sizeOf3
  v3 := Tryd.zeroValue3
  t4 := Tryd.underlying4
  a4 := Tryd.isAgg4
  z4 := Tryd.sizeOf4
  v4 := Tryd.zeroValue4
  t5 := Tryd.underlying5
  a5 := Tryd.isAgg5
  z5 := Tryd.sizeOf5
  v5 := Tryd.zeroValue5
  t9 := Tryd.underlying9
  a9 := Tryd.isAgg9
  z9 := Tryd.sizeOf9
  v9 := Tryd.zeroValue9
  t21 := Tryd.underlying21
  a21 := Tryd.isAgg21
  z21 := Tryd.sizeOf21
  v21 := Tryd.zeroValue21
  t46 := Tryd.underlying82
  a46 := Tryd.isAgg82
  z46 := Tryd.sizeOf82
  v46 := Tryd.zeroValue82
  t105 := Tryd.underlying124
  a105 := Tryd.isAgg124
  z105 := Tryd.sizeOf124
  v105 := Tryd.zeroValue124
  t116 := Tryd.underlying109
  a116 := Tryd.isAgg109
  z116 := Tryd.sizeOf109
  t117 := Tryd.underlying110
  a117 := Tryd.isAgg110
  z117 := Tryd.sizeOf110
  v117 := Tryd.zeroValue110
  t119 := Tryd.underlying143
  a119 := Tryd.isAgg143
  z119 := Tryd.sizeOf143
  t124 := Tryd.underlying113
  a124 := Tryd.isAgg113
  z124 := Tryd.sizeOf113
  v124 := Tryd.zeroValue113
  t138 := Tryd.underlying145
  a138 := Tryd.isAgg145
  z138 := Tryd.sizeOf145
  v138 := Tryd.zeroValue145
  t139 := Tryd.underlying146
  a139 := Tryd.isAgg146
  z139 := Tryd.sizeOf146
  v139 := Tryd.zeroValue146
  g3 := by kernel_rfl
  g4 := by kernel_rfl }
def Tryd.lays137_ren : Go.Shelf.Ren := ⟨fun | 137 => 59 | 217 => 80 | 266 => 90 | n => n, fun | 9 => 9 | 5 => 5 | 3 => 3 | n => n, fun | n => n⟩
theorem Tryd.lays137 : Go.Proofs.Lays.n137 Tryd.prog Tryd.lays137_ren := {
  mixed := by kernel_rfl
  f137 := Tryd.func59.trans (congrArg some (by kernel_rfl))
  f217 := Tryd.func80.trans (congrArg some (by kernel_rfl))
  f266 := Tryd.func90.trans (congrArg some (by kernel_rfl))
  t3 := Tryd.underlying3
  a3 := Tryd.isAgg3
  z3 := Tryd.sizeOf3
  v3 := Tryd.zeroValue3
  t5 := Tryd.underlying5
  a5 := Tryd.isAgg5
  z5 := Tryd.sizeOf5
  v5 := Tryd.zeroValue5
  t9 := Tryd.underlying9
  a9 := Tryd.isAgg9
  z9 := Tryd.sizeOf9
  v9 := Tryd.zeroValue9 }
open Go.RowKit in
/-- strings.IndexByte: "IndexByte returns the index of the first instance of c in s, or -1 if c is not present in s.": IT RETURNS 'Lib.indexByte s c'; the world is as it was. (LAID: no walk: one application.) -/
theorem Tryd.strings_IndexByte (s : ByteArray) (c : Int) (w : World) :
    Calls Tryd.prog 59 #[.string s, .int .u8 c] w fun e w' => e = .returned (.int .i64 (Lib.indexByte s.data.toList c.toNat.toUInt8)) ∧ w' = w := Any.strings_IndexByte Tryd.lays137 s c w
def Tryd.laysM171_ren : Go.Shelf.Ren := ⟨fun | 171 => 37 | 243 => 61 | 246 => 81 | 283 => 91 | 284 => 92 | 285 => 93 | 286 => 94 | 129 => 101 | 317 => 100 | 318 => 102 | 319 => 103 | 320 => 104 | 337 => 108 | 338 => 109 | n => n, fun | 3 => 3 | 9 => 9 | 2 => 2 | 4 => 4 | 171 => 128 | 0 => 0 | 53 => 80 | 37 => 79 | 5 => 5 | 173 => 131 | 212 => 138 | 51 => 139 | 20 => 20 | 213 => 140 | 46 => 82 | 232 => 150 | 233 => 151 | n => n, fun | 17 => 1 | 18 => 4 | 19 => 5 | n => n⟩
theorem Tryd.laysM171 : Go.Proofs.LaysM.n171 Tryd.prog Tryd.laysM171_ren := {
  mixed := by kernel_rfl
  f129 := Tryd.func101.trans (congrArg some (by kernel_rfl))
  f171 := Tryd.func37.trans (congrArg some (by kernel_rfl))
  f243 := Tryd.func61.trans (congrArg some (by kernel_rfl))
  f246 := Tryd.func81.trans (congrArg some (by kernel_rfl))
  f283 := Tryd.func91.trans (congrArg some (by kernel_rfl))
  f284 := Tryd.func92.trans (congrArg some (by kernel_rfl))
  f285 := Tryd.func93.trans (congrArg some (by kernel_rfl))
  f286 := Tryd.func94.trans (congrArg some (by kernel_rfl))
  f317 := Tryd.func100.trans (congrArg some (by kernel_rfl))
  f318 := Tryd.func102.trans (congrArg some (by kernel_rfl))
  f319 := Tryd.func103.trans (congrArg some (by kernel_rfl))
  f320 := Tryd.func104.trans (congrArg some (by kernel_rfl))
  f337 := Tryd.func108.trans (congrArg some (by kernel_rfl))
  f338 := Tryd.func109.trans (congrArg some (by kernel_rfl))
  t0 := Tryd.underlying0
  a0 := Tryd.isAgg0
  z0 := Tryd.sizeOf0
  v0 := Tryd.zeroValue0
  t2 := Tryd.underlying2
  a2 := Tryd.isAgg2
  z2 := Tryd.sizeOf2
  v2 := Tryd.zeroValue2
  t3 := Tryd.underlying3
  a3 := Tryd.isAgg3
  z3 := Tryd.sizeOf3
  v3 := Tryd.zeroValue3
  t4 := Tryd.underlying4
  a4 := Tryd.isAgg4
  z4 := Tryd.sizeOf4
  v4 := Tryd.zeroValue4
  t5 := Tryd.underlying5
  a5 := Tryd.isAgg5
  z5 := Tryd.sizeOf5
  v5 := Tryd.zeroValue5
  t9 := Tryd.underlying9
  a9 := Tryd.isAgg9
  z9 := Tryd.sizeOf9
  v9 := Tryd.zeroValue9
  t20 := Tryd.underlying20
  a20 := Tryd.isAgg20
  z20 := Tryd.sizeOf20
  v20 := Tryd.zeroValue20
  t37 := Tryd.underlying79
  a37 := Tryd.isAgg79
  z37 := Tryd.sizeOf79
  v37 := Tryd.zeroValue79
  t46 := Tryd.underlying82
  a46 := Tryd.isAgg82
  z46 := Tryd.sizeOf82
  v46 := Tryd.zeroValue82
  t51 := Tryd.underlying139
  a51 := Tryd.isAgg139
  z51 := Tryd.sizeOf139
  v51 := Tryd.zeroValue139
  t53 := Tryd.underlying80
  a53 := Tryd.isAgg80
  z53 := Tryd.sizeOf80
  v53 := Tryd.zeroValue80
  t171 := Tryd.underlying128
  a171 := Tryd.isAgg128
  z171 := Tryd.sizeOf128
  v171 := Tryd.zeroValue128
  t173 := Tryd.underlying131
  a173 := Tryd.isAgg131
  z173 := Tryd.sizeOf131
  v173 := Tryd.zeroValue131
  t212 := Tryd.underlying138
  a212 := Tryd.isAgg138
  z212 := Tryd.sizeOf138
  v212 := Tryd.zeroValue138
  t213 := Tryd.underlying140
  a213 := Tryd.isAgg140
  z213 := Tryd.sizeOf140
  t232 := Tryd.underlying150
  a232 := Tryd.isAgg150
  z232 := Tryd.sizeOf150
  v232 := Tryd.zeroValue150
  t233 := Tryd.underlying151
  a233 := Tryd.isAgg151
  z233 := Tryd.sizeOf151
  v233 := Tryd.zeroValue151
  g17 := by kernel_rfl
  g18 := by kernel_rfl
  g19 := by kernel_rfl
  i0 := by kernel_rfl
  i2 := by kernel_rfl
  i3 := by kernel_rfl
  i4 := by kernel_rfl
  i5 := by kernel_rfl
  i9 := by kernel_rfl
  i20 := by kernel_rfl
  i37 := by kernel_rfl
  i46 := by kernel_rfl
  i51 := by kernel_rfl
  i53 := by kernel_rfl
  i171 := by kernel_rfl
  i173 := by kernel_rfl
  i212 := by kernel_rfl
  i232 := by kernel_rfl
  i233 := by kernel_rfl
  m17 := by kernel_rfl
  m18 := by kernel_rfl
  m19 := by kernel_rfl }
open Go.RowKit Go.Sort Go.Lib in
/-- strconv.Itoa: "Itoa is equivalent to FormatInt(int64(i), 10).": i's DECIMAL NUMERAL ('Lib.itoa': a '-' where i is negative, then the digits), FOR EVERY int. The world behind the call: the world before it, new blocks behind the heap (the library's 'var a [24]byte'), draws. (LAID: no walk: one application.) -/
theorem Tryd.strconv_Itoa (n : Int) (h0 : -9223372036854775808 ≤ n) (h1 : n ≤ 9223372036854775807) (w : World) (htab : Lib.TabIs Tryd.prog w "internal/strconv.uint64pow10" .u64 Lib.pow10Tab) :
    Calls Tryd.prog 37 #[.int .i64 n] w fun e w' => e = .returned (.string ⟨(Lib.itoa n).toArray⟩) ∧ ∃ k os, w' = grow (w.drewN k) os := Any.strconv_Itoa Tryd.laysM171 n h0 h1 w htab
def Tryd.lays264_ren : Go.Shelf.Ren := ⟨fun | 264 => 69 | n => n, fun | 53 => 80 | 46 => 82 | n => n, fun | n => n⟩
theorem Tryd.lays264 : Go.Proofs.Lays.n264 Tryd.prog Tryd.lays264_ren := {
  mixed := by kernel_rfl
  f264 := Tryd.func69.trans (congrArg some (by kernel_rfl))
  t46 := Tryd.underlying82
  a46 := Tryd.isAgg82
  z46 := Tryd.sizeOf82
  v46 := Tryd.zeroValue82
  t53 := Tryd.underlying80
  a53 := Tryd.isAgg80
  z53 := Tryd.sizeOf80
  v53 := Tryd.zeroValue80 }
open Go.RowKit Go.Lib in
theorem Tryd.bits_Mul64 (x y : Nat) (hx : x < 18446744073709551616) (hy : y < 18446744073709551616) (w : World) :
    Calls Tryd.prog 69 #[.int .u64 x, .int .u64 y] w fun e w' => e = .returned (.tuple #[.int .u64 ((x * y / 18446744073709551616 : Nat) : Int), .int .u64 ((x * y % 18446744073709551616 : Nat) : Int)]) ∧ w' = w := Any.bits_Mul64 Tryd.lays264 x y hx hy w
def Tryd.laysNm216_ren : Go.Shelf.Ren := ⟨fun | 16 => 63 | n => n, fun | 24 => 22 | 9 => 9 | 4 => 4 | n => n, fun | n => n⟩
theorem Tryd.laysNm216 : Go.Proofs.Lays2.n16 Tryd.prog Tryd.laysNm216_ren := {
  mixed := by kernel_rfl
  f16 := Tryd.func63.trans (congrArg some (by kernel_rfl))
  t4 := Tryd.underlying4
  a4 := Tryd.isAgg4
  z4 := Tryd.sizeOf4
  v4 := Tryd.zeroValue4
  t9 := Tryd.underlying9
  a9 := Tryd.isAgg9
  z9 := Tryd.sizeOf9
  v9 := Tryd.zeroValue9
  t24 := Tryd.underlying22
  a24 := Tryd.isAgg22
  z24 := Tryd.sizeOf22
  v24 := Tryd.zeroValue22
  i9 := by kernel_rfl }
open Go.RowKit Go.Lib in
/-- slices.Clone at []string: "Clone returns a copy of the slice. The elements are copied using assignment, so this is a shallow clone. The result may have additional unused capacity. The result preserves the nilness of s.": OF A SLICE THAT IS NOT nil IT RETURNS A SLICE THAT IS NOT nil, OF THE SAME ELEMENTS, IN MEMORY OF THE CALL's OWN: in the how-to's words (6f): 'w'.ownsRow B e 1 v' n cells': v' begins at the head of a row among the blocks from B on (B: the heap's size at the call), not frozen, whose first cells are the elements · 'Below B w w'': below B all is as it was. The capacity is whatever the run-time gives. 'zs': what the cells behind the slice's address hold; 'zs.take n': its elements. (LAID: no walk: one application.) -/
theorem Tryd.slices_Clone_string (b off n c : Nat) (zs : List ByteArray) (w : World) (hz : n ≤ zs.length) (hbig : n * 16 ≤ 140737488355328) (hc : ∀ j, j < zs.length → w.cell? ⟨b, off + j, none⟩ = some (.string (zs.getD j ByteArray.empty))) :
    Calls Tryd.prog 63 #[.slice (some ⟨b, off, none⟩) n c] w fun e w' => ∃ v', e = .returned v' ∧ w'.ownsRow w.heap.size 9 1 v' n ((zs.take n).map (Value.string)) ∧ v' ≠ .slice none 0 0 ∧ Below w.heap.size w w' := Any.slices_Clone_string Tryd.laysNm216 b off n c zs w hz hbig hc
open Go.RowKit Go.Lib in
/-- The same at nil: nil comes back; the world is as it was. (LAID: no walk: one application.) -/
theorem Tryd.slices_Clone_string_nil (n c : Nat) (w : World) :
    Calls Tryd.prog 63 #[.slice none n c] w fun e w' => e = .returned (.slice none 0 0) ∧ w' = w := Any.slices_Clone_string_nil Tryd.laysNm216 n c w
open Go.RowKit Go.Lib in
/-- The same at a slice of length 0 that is not nil, WHATEVER ITS ADDRESS (no cell is asked for): a slice that is not nil and owns nothing comes back. (LAID: no walk: one application.) -/
theorem Tryd.slices_Clone_string_zero (a : Addr) (c : Nat) (w : World) :
    Calls Tryd.prog 63 #[.slice (some a) 0 c] w fun e w' => ∃ v', e = .returned v' ∧ w'.ownsRow w.heap.size 9 1 v' 0 [] ∧ v' ≠ .slice none 0 0 ∧ Below w.heap.size w w' := Any.slices_Clone_string_zero Tryd.laysNm216 a c w
end Go.Proofs
/- digest.mix, digest.digits, digest.Sum and its inner function: what each call answers, and that only new memory is made. -/
namespace Go.Proofs.YtoimnllcniefoaaDoor.P
open Go.RowKit Go.Proofs.YtoimnllcniefoaaDoor
set_option linter.unusedVariables false

set_option maxHeartbeats 1000000 in
theorem digest_mix_any (x : Nat) (hx : x < 18446744073709551616) (w : World) :
    Calls Tryd.prog 46 #[.int .u64 x] w fun e w' => e = .returned (.int .u64 (Dg.mix x)) ∧ w' = w := by
  obtain ⟨a, ha⟩ : ∃ a, a = x * 6364136223846793005 % 18446744073709551616 := ⟨_, rfl⟩
  have b1 : a < 18446744073709551616 := by omega
  obtain ⟨b, hb⟩ : ∃ b, b = a ^^^ (a / 2147483648) := ⟨_, rfl⟩
  have e1 : bits .xor .u64 (a : Int) ((a : Int) / 2147483648) = (b : Int) := by
    rw [hb]; exact Dg.xor_u64 a (a / 2147483648) b1 (by omega)
  have b2 : b < 18446744073709551616 := by
    rw [hb]; exact Dg.xor_lt a (a / 2147483648) b1 (by omega)
  obtain ⟨c, hc⟩ : ∃ c, c = b * 3202034522624059733 % 18446744073709551616 := ⟨_, rfl⟩
  have b3 : c < 18446744073709551616 := by omega
  obtain ⟨d, hd⟩ : ∃ d, d = c ^^^ (c / 1073741824) := ⟨_, rfl⟩
  have e2 : bits .xor .u64 (c : Int) ((c : Int) / 1073741824) = (d : Int) := by
    rw [hd]; exact Dg.xor_u64 c (c / 1073741824) b3 (by omega)
  have hm : Dg.mix x = d := by rw [hd, hc, hb, ha]; rfl
  have c1 : ∀ w, Calls Tryd.prog 69 #[.int .u64 x, .int .u64 6364136223846793005] w fun e w' => (∃ h : Int, e = .returned (.tuple #[.int .u64 h, .int .u64 a])) ∧ w' = w := fun w =>
    (Tryd.bits_Mul64 x 6364136223846793005 hx (by decide) w).mono fun _ _ ⟨he, hw⟩ => ⟨⟨((x * 6364136223846793005 / 18446744073709551616 : Nat) : Int), by rw [he, ha]⟩, hw⟩
  have c2 : ∀ w, Calls Tryd.prog 69 #[.int .u64 b, .int .u64 3202034522624059733] w fun e w' => (∃ h : Int, e = .returned (.tuple #[.int .u64 h, .int .u64 c])) ∧ w' = w := fun w =>
    (Tryd.bits_Mul64 b 3202034522624059733 b2 (by decide) w).mono fun _ _ ⟨he, hw⟩ => ⟨⟨((b * 3202034522624059733 / 18446744073709551616 : Nat) : Int), by rw [he, hc]⟩, hw⟩
  have E1 := Lib.hid e1
  have E2 := Lib.hid e2
  have HM := Lib.hid hm
  have C1 := Lib.hid c1
  have C2 := Lib.hid c2
  clear ha hb hc hd e1 e2 hm c1 c2
  go_enter Tryd.func46, Tryd.ntmps46
  go_wp2_with fail
  refine (C1.out _).mono ?_
  rintro e w' ⟨⟨h1, rfl⟩, rfl⟩
  go_wp2_with fail
  rw [E1.out]
  refine (C2.out _).mono ?_
  rintro e w' ⟨⟨h2, rfl⟩, rfl⟩
  go_wp2_with fail
  rw [E2.out]
  go_ret
  exact ⟨by rw [HM.out]; rfl, rfl⟩

def digCells : List Value := [.int .u8 48, .int .u8 49, .int .u8 50, .int .u8 51, .int .u8 52, .int .u8 53, .int .u8 54, .int .u8 55, .int .u8 56, .int .u8 57, .int .u8 97, .int .u8 98, .int .u8 99, .int .u8 100, .int .u8 101, .int .u8 102]

set_option maxHeartbeats 4000000 in
theorem digest_digits_any (w : World) :
    Calls Tryd.prog 47 #[] w fun e w' => e = .returned (.agg digCells.toArray) ∧ Below w.heap.size w w' := by
  go_enter Tryd.func47, Tryd.ntmps47
  go_wp2
  refine wp_loop_rounds 17 ?_
  iterate 17
    rw [rounds_succ]
    go_wp2
  exact bodyPost_ret (v := .agg digCells.toArray) (by simp [results, Tryd.results47, go_sem, digCells]) rfl ⟨rfl, ((Below.refl _ _).alloc (Nat.le_refl _) _).alloc (by simp) _⟩
end Go.Proofs.YtoimnllcniefoaaDoor.P
/- digest.Sum and its inner function: the digest of a text, and that only new memory is made. -/
namespace Go.Proofs.YtoimnllcniefoaaDoor.P
open Go.RowKit Go.Proofs.YtoimnllcniefoaaDoor
set_option linter.unusedVariables false

/-- The eight cells of a block behind the copy of a piece. -/
def pieceCells (s : ByteArray) : List Value := Lib.byteCells s.data.toList ++ List.replicate (8 - s.size) (.int .u8 0)

theorem pieceCells_at (s : ByteArray) (h : s.size ≤ 8) (k : Nat) (hk : k < 8) : (pieceCells s)[k]? = some (.int .u8 ((Dg.at0 s.data.toList k : Nat) : Int)) := by
  unfold pieceCells Dg.at0
  have hl : (Lib.byteCells s.data.toList).length = s.size := by rw [Lib.byteCells_length]; rfl
  by_cases h1 : k < s.size
  · have h2 : k < s.data.toList.length := h1
    rw [List.getElem?_append_left (by omega), Lib.byteCells, List.getElem?_map, List.getElem?_eq_getElem h2]
    simp [List.getD, List.getElem?_eq_getElem h2]
  · have h2 : ¬ k < s.data.toList.length := h1
    rw [List.getElem?_append_right (by omega), hl, List.getElem?_replicate, if_pos (by omega), List.getD, List.getElem?_eq_none (by omega)]
    rfl

theorem pieceCells_eq (s : ByteArray) (h : s.size ≤ 8) :
    (#[Value.int .u8 0, .int .u8 0, .int .u8 0, .int .u8 0, .int .u8 0, .int .u8 0, .int .u8 0, .int .u8 0].toList.take 0 ++ Lib.byteCells s.data.toList ++ #[Value.int .u8 0, .int .u8 0, .int .u8 0, .int .u8 0, .int .u8 0, .int .u8 0, .int .u8 0, .int .u8 0].toList.drop (0 + s.size)) = pieceCells s := by
  unfold pieceCells
  rw [show #[Value.int .u8 0, .int .u8 0, .int .u8 0, .int .u8 0, .int .u8 0, .int .u8 0, .int .u8 0, .int .u8 0].toList = List.replicate 8 (.int .u8 0) from rfl]
  rw [List.take_zero, List.nil_append, Nat.zero_add, List.drop_replicate]

theorem upto_step (l : List UInt8) (k : Nat) (h : k < 8) :
    bits .or .u64 (IntKind.u64.wrap ((Dg.upto l k : Nat) * 256 : Int)) (IntKind.u64.wrap (Dg.at0 l k : Int)) = ((Dg.upto l (k + 1) : Nat) : Int) := by
  have h1 : Dg.upto l k < 72057594037927936 := Nat.lt_of_lt_of_le (Dg.upto_lt l k) (Nat.pow_le_pow_right (n := 256) (by decide) (show k ≤ 7 by omega))
  have h2 := Dg.at0_lt l k
  rw [show (IntKind.u64.wrap ((Dg.upto l k : Nat) * 256 : Int)) = ((Dg.upto l k * 256 : Nat) : Int) from by rw [IntKind.wrap_u64]; omega,
    show (IntKind.u64.wrap (Dg.at0 l k : Int)) = ((Dg.at0 l k : Nat) : Int) from by rw [IntKind.wrap_u64]; omega]
  exact Dg.or_byte _ _ h1 h2

theorem upto8_lt (l : List UInt8) : Dg.upto l 8 < 18446744073709551616 := Dg.upto_lt l 8

set_option maxHeartbeats 2000000 in
set_option maxRecDepth 100000 in
theorem digest_take_any (s : ByteArray) (hs : s.size ≤ 8) (b st : Nat) (hst : st < 18446744073709551616) (B : Nat) (w : World) (hB : B ≤ b) (hb : w.heap[b]? = some (.cells #[.int .u64 st] 80 (0, 0))) :
    Calls Tryd.prog 45 #[.string s, .pointer (some ⟨b, 0, none⟩)] w fun e w' => e = .returned (.tuple #[]) ∧
      w'.heap[b]? = some (.cells #[.int .u64 (Dg.mix (st ^^^ Dg.blk 0 8 s.data.toList))] 80 (0, 0)) ∧ Below B w w' ∧ w.heap.size ≤ w'.heap.size := by
  have hlt := lt_of_block hb
  have hcopy : (Builtin.copy_ #[79, 9] 3 #[.slice (some ⟨w.heap.size, 0, none⟩) 8 8, .string s]).run Tryd.prog (w.alloc (.cells #[.int .u8 0, .int .u8 0, .int .u8 0, .int .u8 0, .int .u8 0, .int .u8 0, .int .u8 0, .int .u8 0] 81)) = .ok (goInt s.size) (w.alloc (.cells (pieceCells s).toArray 81)) := by
    rw [Lib.run_copy_row_string _ _ _ _ 5 w.heap.size 0 8 8 s #[.int .u8 0, .int .u8 0, .int .u8 0, .int .u8 0, .int .u8 0, .int .u8 0, .int .u8 0, .int .u8 0] 81 Tryd.underlying79 (by kernel_rfl) (heap_alloc_new _ _) hs (by simpa using hs)]
    rw [pieceCells_eq s hs, World.setRow_alloc_new]
  have HC := Lib.hid hcopy
  clear hcopy
  go_enter Tryd.func45, Tryd.ntmps45
  go_wp2
  rw [HC.out]
  simp only [Result.andThen]
  rw [Oper.upon_value]
  go_wp2
  have hrow : (w.alloc (.cells (pieceCells s).toArray 81)).heap[w.heap.size]? = some (.cells (pieceCells s).toArray 81 (0, 0)) := heap_alloc_new _ _
  have hcell : ∀ k, k < 8 → (w.alloc (.cells (pieceCells s).toArray 81)).cell? ⟨w.heap.size, k, none⟩ = some (.int .u8 ((Dg.at0 s.data.toList k : Nat) : Int)) := by
    intro k hk
    rw [Lib.cell_of_heap hrow, List.getElem?_toArray]
    exact pieceCells_at s hs k hk
  have hblk : (w.alloc (.cells (pieceCells s).toArray 81)).heap[b]? = some (.cells #[.int .u64 st] 80 (0, 0)) := by
    rw [Lib.alloc_old w _ b hlt]; exact hb
  have hbel : Below B w (w.alloc (.cells (pieceCells s).toArray 81)) := (Below.refl B w).alloc (by omega) _
  have hsz : (w.alloc (.cells (pieceCells s).toArray 81)).heap.size = w.heap.size + 1 := by simp
  have HCELL := Lib.hid hcell
  have HROW := Lib.hid hrow
  have HBLK := Lib.hid hblk
  have HBEL := Lib.hid hbel
  have HSZ := Lib.hid hsz
  clear hcell hrow hblk hbel hsz HC hb
  generalize (w.alloc (.cells (pieceCells s).toArray 81)) = w1 at HCELL HROW HBLK HBEL HSZ ⊢
  go_loop [4, 9] (fun n i => ∃ k : Nat, k ≤ 8 ∧ i = .int .i64 k ∧ n = .int .u64 (Dg.upto s.data.toList k)) (fun _ i => 8 - (intOf i).toNat)
  case atStart => exact ⟨0, by omega, rfl, rfl⟩
  case round =>
    obtain ⟨k, hk, rfl, rfl⟩ := hrel
    by_cases h8 : k < 8
    · have hc := HCELL.out k h8
      have hstep := Lib.hid (upto_step s.data.toList k h8)
      go_wp2
      exact ⟨⟨k + 1, by omega, by simp, by rw [hstep.out]⟩, by simp [intOf]; omega⟩
    · obtain rfl : k = 8 := by omega
      clear h8 hk
      have hx := Lib.hid (Dg.xor_u64 st (Dg.upto s.data.toList 8) hst (upto8_lt _))
      have hxl := Dg.xor_lt st (Dg.upto s.data.toList 8) hst (upto8_lt _)
      have hfin := Lib.hid (Dg.blk_eq s.data.toList)
      generalize Dg.upto s.data.toList 8 = u at hx hxl hfin ⊢
      have c0 := cell_of_one HBLK.out
      have f0 := free_of_one HBLK.out
      go_wp2_with fail
      rw [hx.out]
      refine (digest_mix_any _ hxl _).mono ?_
      rintro e w' ⟨rfl, rfl⟩
      go_wp2
      go_end0
      refine ⟨rfl, ?_, ?_, ?_⟩
      · rw [hfin.out]; exact one_setCell HBLK.out
      · exact HBEL.out.setCell (p := ⟨b, 0, none⟩) hB _
      · have := HSZ.out; simp; omega

theorem blk_take (acc n : Nat) (l : List UInt8) : Dg.blk acc n (l.take n) = Dg.blk acc n l := by
  induction n generalizing acc l with
  | zero => simp [Dg.blk]
  | succ n ih =>
    cases l with
    | nil => simp
    | cons b r => simp only [List.take_succ_cons, Dg.blk]; exact ih _ _

theorem take8_size (s : ByteArray) (h : 8 ≤ s.size) : (s.extract 0 8).size = 8 := by simp; omega

theorem take8_blk (s : ByteArray) : Dg.blk 0 8 (s.extract 0 8).data.toList = Dg.blk 0 8 s.data.toList := by
  rw [Lib.extract_upto]; exact blk_take 0 8 _

theorem drop8_list (s : ByteArray) : (s.extract 8 s.size).data.toList = s.data.toList.drop 8 := by
  rw [Lib.extract_from]

theorem fin_step (st : Nat) (s : ByteArray) (h : 8 ≤ s.size) :
    Dg.fin ((s.extract 8 s.size).size / 8) (Dg.mix (st ^^^ Dg.blk 0 8 (s.extract 0 8).data.toList)) (s.extract 8 s.size).data.toList = Dg.fin (s.size / 8) st s.data.toList := by
  have e : s.size / 8 = (s.size - 8) / 8 + 1 := by omega
  rw [take8_blk, drop8_list, e]
  have : (s.extract 8 s.size).size = s.size - 8 := by simp
  rw [this]
  rfl

def strSize : Value → Nat
  | .string s => s.size
  | _ => 0

/-- The cells of the digits, k of them written. -/
def outCells (st k : Nat) : List Value := ((Dg.hex st).take k).map (fun b => Value.int .u8 (b.toNat : Int)) ++ List.replicate (16 - k) (.int .u8 0)

theorem digCells_at (q : Nat) (h : q < 16) : digCells[q]? = some (.int .u8 ((Dg.hexd q).toNat : Int)) := by
  match q, h with
  | 0, _ => rfl
  | 1, _ => rfl
  | 2, _ => rfl
  | 3, _ => rfl
  | 4, _ => rfl
  | 5, _ => rfl
  | 6, _ => rfl
  | 7, _ => rfl
  | 8, _ => rfl
  | 9, _ => rfl
  | 10, _ => rfl
  | 11, _ => rfl
  | 12, _ => rfl
  | 13, _ => rfl
  | 14, _ => rfl
  | 15, _ => rfl
  | q + 16, h => omega

def zeros16 : List Value := List.replicate 16 (.int .u8 0)

theorem store16 (w : World) : (storeCells ⟨w.heap.size, 0, none⟩ digCells).run Tryd.prog (w.alloc (.cells #[.int .u8 0, .int .u8 0, .int .u8 0, .int .u8 0, .int .u8 0, .int .u8 0, .int .u8 0, .int .u8 0, .int .u8 0, .int .u8 0, .int .u8 0, .int .u8 0, .int .u8 0, .int .u8 0, .int .u8 0, .int .u8 0] 85)) = .ok () (w.alloc (.cells digCells.toArray 85)) := by
  show (storeCells ⟨w.heap.size, 0, none⟩ digCells).run Tryd.prog (w.alloc (.cells zeros16.toArray 85)) = .ok () (w.alloc (.cells digCells.toArray 85))
  have h := run_storeCells_at Tryd.prog w.heap.size 0 85 digCells 0 zeros16.toArray (w.alloc (.cells zeros16.toArray 85)) (heap_alloc_new _ _) (by decide) (by decide)
  simp only [Nat.add_zero] at h
  rw [h, show (zeros16.toArray.toList.take 0 ++ digCells ++ zeros16.toArray.toList.drop (0 + digCells.length)) = digCells from rfl, World.setRow_alloc_new]

theorem alloc2_facts (Z : Array Value) (w w2 : World) (v : Value) (T : TypeId) (h : w2.heap[w.heap.size]? = some (.cells #[v] T (0, 0))) (hb : Below w.heap.size w w2) :
    ((w2.alloc (.cells digCells.toArray 85)).alloc (.cells Z 85)).heap[w.heap.size]? = some (.cells #[v] T (0, 0)) ∧
    ((w2.alloc (.cells digCells.toArray 85)).alloc (.cells Z 85)).heap[w2.heap.size]? = some (.cells digCells.toArray 85 (0, 0)) ∧
    ((w2.alloc (.cells digCells.toArray 85)).alloc (.cells Z 85)).heap[w2.heap.size + 1]? = some (.cells Z 85 (0, 0)) ∧
    Below w.heap.size w ((w2.alloc (.cells digCells.toArray 85)).alloc (.cells Z 85)) ∧ w.heap.size < w2.heap.size := by
  have hlt := lt_of_block h
  refine ⟨?_, ?_, ?_, ?_, hlt⟩
  · rw [Lib.alloc_old _ _ _ (by simp; omega), Lib.alloc_old _ _ _ hlt]; exact h
  · rw [Lib.alloc_old _ _ _ (by simp)]; exact heap_alloc_new _ _
  · have := heap_alloc_new (w2.alloc (.cells digCells.toArray 85)) (.cells Z 85)
    simpa using this
  · exact (hb.alloc (Nat.le_of_lt hlt) _).alloc (by simp; omega) _

theorem and15 (S k : Nat) (h : S < 18446744073709551616) : bits .and .u64 ((S : Int) / 2 ^ (60 - 4 * k)) 15 = ((S / 2 ^ (60 - 4 * k) % 16 : Nat) : Int) := by
  have e : ((S : Int) / 2 ^ (60 - 4 * k)) = ((S / 2 ^ (60 - 4 * k) : Nat) : Int) := by simp
  have h2 : S / 2 ^ (60 - 4 * k) < 18446744073709551616 := Nat.lt_of_le_of_lt (Nat.div_le_self _ _) h
  rw [e]
  have := bits_and_u64_nat (S / 2 ^ (60 - 4 * k)) 15 h2 (by decide)
  rw [show ((15 : Nat) : Int) = 15 from rfl] at this
  rw [this]
  congr 1
  exact Nat.and_two_pow_sub_one_eq_mod (S / 2 ^ (60 - 4 * k)) 4

theorem outCells_all (st : Nat) (k : Nat) (hk : k < (Dg.hex st).length) : (outCells st 16)[k]? = some (.int .u8 ((Dg.hex st)[k].toNat : Int)) := by
  unfold outCells
  rw [List.take_of_length_le (by rw [Dg.hex_length]; decide), show 16 - 16 = 0 from rfl, List.replicate_zero, List.append_nil, List.getElem?_map, List.getElem?_eq_getElem hk]
  rfl

theorem outCells_get (st k : Nat) (h : k < 16) : (outCells st k)[k]? = some (.int .u8 0) := by
  unfold outCells
  have hl : (List.map (fun b => Value.int .u8 ((b : UInt8).toNat : Int)) ((Dg.hex st).take k)).length = k := by
    rw [List.length_map, List.length_take, Dg.hex_length]; omega
  rw [List.getElem?_append_right (by rw [hl]; exact Nat.le_refl _), hl, Nat.sub_self, List.getElem?_replicate, if_pos (by omega)]

theorem outCells_set (st k : Nat) (h : k < 16) : (outCells st k).set k (.int .u8 ((Dg.hexd (st / 2 ^ (60 - 4 * k) % 16)).toNat : Int)) = outCells st (k + 1) := by
  have hk : (Dg.hex st)[k]? = some (Dg.hexd (st / 2 ^ (60 - 4 * k) % 16)) := by
    unfold Dg.hex
    rw [List.getElem?_map, List.getElem?_range h]
    rfl
  have hl : (Dg.hex st).length = 16 := Dg.hex_length st
  have hlk : k < (Dg.hex st).length := by omega
  unfold outCells
  rw [show 16 - k = (16 - (k + 1)) + 1 by omega, List.replicate_succ, List.set_append_right _ _ (by simp [hl]; omega)]
  rw [show k - (List.map (fun b => Value.int .u8 (b.toNat : Int)) (List.take k (Dg.hex st))).length = 0 by simp [hl]; omega, List.set_cons_zero]
  rw [List.take_succ_eq_append_getElem hlk, List.map_append, List.append_assoc]
  rw [List.getElem?_eq_getElem hlk] at hk
  rw [Option.some.inj hk]
  rfl

set_option maxHeartbeats 2000000 in
set_option maxRecDepth 100000 in
theorem digest_sum_any (s : ByteArray) (hs : s.size ≤ 9223372036854775807) (w : World) :
    Calls Tryd.prog 19 #[.string s] w fun e w' => e = .returned (.string (Dg.sum s)) ∧ Below w.heap.size w w' := by
  have hx : bits .xor .u64 1442695040888963407 (s.size : Int) = ((1442695040888963407 ^^^ s.size : Nat) : Int) := by
    exact Dg.xor_u64 1442695040888963407 s.size (by decide) (by omega)
  have hst0 : (1442695040888963407 ^^^ s.size : Nat) < 18446744073709551616 := Dg.xor_lt _ _ (by decide) (by omega)
  have hfin : Dg.fin (s.size / 8) (1442695040888963407 ^^^ s.size) s.data.toList = Dg.state s.data.toList := rfl
  have HX := Lib.hid hx
  have HF := Lib.hid hfin
  clear hx hfin
  go_enter Tryd.func19, Tryd.ntmps19
  go_wp2
  rw [HX.out]
  clear HX
  generalize (1442695040888963407 ^^^ s.size : Nat) = st0 at HF hst0 ⊢
  go_loopw [0] (fun v wr => ∃ (r : ByteArray) (st : Nat), v = .string r ∧ r.size ≤ 9223372036854775807 ∧ st < 18446744073709551616 ∧ Hid (Dg.fin (r.size / 8) st r.data.toList = Dg.state s.data.toList) ∧ Hid (wr.heap[w.heap.size]? = some (.cells #[.int .u64 st] 80 (0, 0))) ∧ Hid (Below w.heap.size w wr)) (fun v _ => strSize v)
  case atStart => exact ⟨s, st0, rfl, hs, hst0, HF, Lib.hid (heap_alloc_new _ _), Lib.hid ((Below.refl _ _).alloc (Nat.le_refl _) _)⟩
  case round =>
    obtain ⟨r, st, rfl, hr, hst, HFR, HBL, HB⟩ := hrel
    clear HF
    by_cases h8 : 8 ≤ r.size
    · have HS := Lib.hid (take8_size r h8)
      have hstep := Lib.hid (fin_step st r h8)
      go_wp2_with fail
      refine (digest_take_any (r.extract 0 8) (by rw [HS.out]; decide) w.heap.size st hst w.heap.size _ (Nat.le_refl _) HBL.out).mono ?_
      rintro e w1 ⟨rfl, hb1, hbel1, -⟩
      have HB1 := Lib.hid hb1
      have HBEL1 := Lib.hid hbel1
      clear hb1 hbel1
      go_wp2
      go_roundw
      case rel => exact ⟨r.extract 8 r.size, _, rfl, by simp; omega, Dg.mix_lt _, Lib.hid (by rw [hstep.out, HFR.out]), HB1, Lib.hid (HB.out.trans HBEL1.out)⟩
      case measure => simp [strSize]; omega
    · have hz : r.size / 8 = 0 := by omega
      have hfin : Dg.mix (st ^^^ Dg.blk 0 8 r.data.toList) = Dg.state s.data.toList := by
        have := HFR.out
        rw [hz] at this
        exact this
      have HFIN := Lib.hid hfin
      clear hfin HFR hz
      go_wp2_with fail
      refine (digest_take_any r (by omega) w.heap.size st hst w.heap.size _ (Nat.le_refl _) HBL.out).mono ?_
      rintro e w1 ⟨rfl, hb1, hbel1, -⟩
      rw [HFIN.out] at hb1
      have HB1 := Lib.hid hb1
      have HBEL1 := Lib.hid (HB.out.trans hbel1)
      clear hb1 hbel1 HBL HB HFIN h8 hr hst
      have hst := Dg.state_lt s.data.toList
      have HSUM := Lib.hid (show Dg.sumL s.data.toList = Dg.hex (Dg.state s.data.toList) from rfl)
      generalize Dg.state s.data.toList = S at HB1 hst HSUM
      go_wp2_with fail
      refine (digest_digits_any _).mono ?_
      rintro e w2 ⟨rfl, hbel2⟩
      have hlt1 := lt_of_block HB1.out
      have hb2 : w2.heap[w.heap.size]? = some (.cells #[.int .u64 S] 80 (0, 0)) := (hbel2.block _ hlt1).trans HB1.out
      have HB2 := Lib.hid hb2
      have HBEL2 := Lib.hid (HBEL1.out.trans (hbel2.mono (Nat.le_of_lt hlt1)))
      have hlt2 := lt_of_block hb2
      clear hb2 hbel2 hlt1 HB1 HBEL1
      go_wp2
      rw [store16 w2]
      simp only [Result.andThen]
      rw [Oper.upon_skip]
      go_wp2
      have h3 := alloc2_facts #[.int .u8 0, .int .u8 0, .int .u8 0, .int .u8 0, .int .u8 0, .int .u8 0, .int .u8 0, .int .u8 0, .int .u8 0, .int .u8 0, .int .u8 0, .int .u8 0, .int .u8 0, .int .u8 0, .int .u8 0, .int .u8 0] w w2 (.int .u64 S) 80 HB2.out HBEL2.out
      obtain ⟨ha, hb, hc, hd, he⟩ := h3
      have HA := Lib.hid ha
      have HB := Lib.hid hb
      have HC := Lib.hid hc
      have HD := Lib.hid hd
      have HE := Lib.hid he
      clear ha hb hc hd he HB2 HBEL2
      generalize ((w2.alloc (.cells digCells.toArray 85)).alloc (.cells #[.int .u8 0, .int .u8 0, .int .u8 0, .int .u8 0, .int .u8 0, .int .u8 0, .int .u8 0, .int .u8 0, .int .u8 0, .int .u8 0, .int .u8 0, .int .u8 0, .int .u8 0, .int .u8 0, .int .u8 0, .int .u8 0] 85)) = w4 at HA HB HC HD HE ⊢
      go_loopw [26] (fun i wq => ∃ k : Nat, k ≤ 16 ∧ i = .int .i64 k ∧ Hid (wq.heap[w.heap.size]? = some (.cells #[.int .u64 S] 80 (0, 0))) ∧ Hid (wq.heap[w2.heap.size]? = some (.cells digCells.toArray 85 (0, 0))) ∧ Hid (wq.heap[w2.heap.size + 1]? = some (.cells (outCells S k).toArray 85 (0, 0))) ∧ Hid (Below w.heap.size w wq)) (fun i _ => 16 - (intOf i).toNat)
      case atStart => exact ⟨0, by omega, rfl, HA, HB, HC, HD⟩
      case round =>
        obtain ⟨k, hk, rfl, HA, HB, HC, HD⟩ := hrel
        by_cases h16 : k < 16
        · have c0 := cell_of_one HA.out
          have hq := and15 S k hst
          have hqlt : S / 2 ^ (60 - 4 * k) % 16 < 16 := Nat.mod_lt _ (by decide)
          have hset := outCells_set S k h16
          generalize S / 2 ^ (60 - 4 * k) % 16 = q at hq hqlt hset
          have c1 : wr.cell? ⟨w2.heap.size, q, none⟩ = some (.int .u8 ((Dg.hexd q).toNat : Int)) := by
            rw [Lib.cell_of_heap HB.out, List.getElem?_toArray]; exact digCells_at q hqlt
          have c2 : wr.cell? ⟨w2.heap.size + 1, k, none⟩ = some (.int .u8 0) := by
            rw [Lib.cell_of_heap HC.out, List.getElem?_toArray]; exact outCells_get S k h16
          have f2 := Lib.frozen_of_heap HC.out k
          have HSET := Lib.hid hset
          clear hset
          go_wp2
          refine ⟨⟨k + 1, by omega, by simp, Lib.hid ?_, Lib.hid ?_, Lib.hid ?_, Lib.hid ?_⟩, by simp [intOf]; omega⟩
          · rw [Below.heap_setCell _ _ _ _ (by simp; omega)]; exact HA.out
          · rw [Below.heap_setCell _ _ _ _ (by simp)]; exact HB.out
          · rw [Lib.heap_setCell_same HC.out, List.setIfInBounds_toArray, HSET.out]
          · exact HD.out.setCell (p := ⟨w2.heap.size + 1, k, none⟩) (by simp; omega) _
        · obtain rfl : k = 16 := by omega
          clear hk h16
          have hconv : (convert 79 9 (.slice (some ⟨w2.heap.size + 1, 0, none⟩) 16 16)).run Tryd.prog wr = .ok (.string ⟨(Dg.hex S).toArray⟩) wr := by
            have h := run_convert_bytes_back (P := Tryd.prog) wr 79 9 5 ⟨w2.heap.size + 1, 0, none⟩ 16 (Dg.hex S) Tryd.underlying79 Tryd.underlying5 Tryd.underlying9 (fun j hj => by
              have ha : (⟨w2.heap.size + 1, 0, none⟩ : Addr).add j = ⟨w2.heap.size + 1, j, none⟩ := by unfold Addr.add; split <;> simp_all
              rw [ha, Lib.cell_of_heap HC.out, List.getElem?_toArray]
              exact outCells_all S j hj)
            rw [Dg.hex_length] at h
            exact h
          go_wp2
          go_ret
          refine ⟨?_, HD.out⟩
          show Ending.returned (.string _) = Ending.returned (.string ⟨(Dg.sumL s.data.toList).toArray⟩)
          rw [HSUM.out]

def digest_Sum.f (a0 : ByteArray) : Option ByteArray := if a0.size ≤ 9223372036854775807 then some (Dg.sum a0) else none
theorem digest_Sum.calls (a0 : ByteArray) (r : ByteArray) (w : World) (h : digest_Sum.f a0 = some r) :
    Calls Tryd.prog 19 #[.string a0] w fun e w' => e = .returned (.string r) ∧ Below w.heap.size w w' := by
  unfold digest_Sum.f at h
  split at h
  · rename_i hs
    cases h
    exact digest_sum_any a0 hs w
  · cases h
end Go.Proofs.YtoimnllcniefoaaDoor.P
/- Merkle trees as the program computes them, as plain functions on lists; no program and no memory. -/
namespace Go.Proofs.YtoimnllcniefoaaDoor.Dg
open Go
/-- A text with its length in front of it. -/
def piece (s : ByteArray) : List UInt8 := Lib.itoa s.size ++ 58 :: s.data.toList
def joinedL (l : List ByteArray) : List UInt8 := l.flatMap piece
def joined (l : List ByteArray) : ByteArray := ⟨(joinedL l).toArray⟩
def list (l : List ByteArray) : ByteArray := sum (joined l)
def hexset : List UInt8 := [48, 49, 50, 51, 52, 53, 54, 55, 56, 57, 97, 98, 99, 100, 101, 102]
/-- A text of sixteen hexadecimal digits. -/
def isD (s : ByteArray) : Bool := s.size == 16 && s.data.toList.all (hexset.contains ·)

theorem joinedL_append (a b : List ByteArray) : joinedL (a ++ b) = joinedL a ++ joinedL b := by simp [joinedL]
theorem joinedL_take_succ (l : List ByteArray) (k : Nat) (h : k < l.length) : joinedL (l.take (k + 1)) = joinedL (l.take k) ++ piece l[k] := by
  rw [List.take_succ_eq_append_getElem h, joinedL_append]
  simp [joinedL]
theorem joinedL_take_le (l : List ByteArray) (k : Nat) : (joinedL (l.take k)).length ≤ (joinedL l).length := by
  have h := joinedL_append (l.take k) (l.drop k)
  rw [List.take_append_drop] at h
  rw [h]; simp
theorem piece_le (s : ByteArray) (h : s.size ≤ 9223372036854775807) : (piece s).length ≤ s.size + 22 := by
  have := Lib.itoa_length_le (s.size : Int) (by omega) (by omega)
  simp only [piece, List.length_append, List.length_cons]
  rw [show s.data.toList.length = s.size from rfl]
  omega
theorem list_size (l : List ByteArray) : (list l).size = 16 := sum_size _
end Go.Proofs.YtoimnllcniefoaaDoor.Dg
namespace Go.Proofs.YtoimnllcniefoaaDoor.Tr
open Go Go.Proofs.YtoimnllcniefoaaDoor

def wLeaf : ByteArray := ⟨#[108, 101, 97, 102]⟩
def wNode : ByteArray := ⟨#[110, 111, 100, 101]⟩
def wEmpty : ByteArray := ⟨#[101, 109, 112, 116, 121]⟩
def leaf (s : ByteArray) : ByteArray := Dg.list [wLeaf, s]
def node (a b : ByteArray) : ByteArray := Dg.list [wNode, a, b]

def halfGo : Nat → Nat → Nat → Nat
  | 0, k, _ => k
  | f + 1, k, n => if k * 2 < n then halfGo f (k * 2) n else k
/-- The greatest power of two below n. -/
def half (n : Nat) : Nat := halfGo 64 1 n

theorem halfGo_done (f k n : Nat) (h : ¬ k * 2 < n) : halfGo f k n = k := by
  cases f with
  | zero => rfl
  | succ f => simp only [halfGo]; rw [if_neg h]
theorem halfGo_lt (f k n : Nat) (h : k < n) : halfGo f k n < n := by
  induction f generalizing k with
  | zero => exact h
  | succ f ih =>
    simp only [halfGo]
    split
    · exact ih _ ‹_›
    · exact h
theorem halfGo_le (f k n : Nat) : k ≤ halfGo f k n := by
  induction f generalizing k with
  | zero => exact Nat.le_refl _
  | succ f ih =>
    simp only [halfGo]
    split
    · exact Nat.le_trans (by omega) (ih _)
    · exact Nat.le_refl _
theorem half_lt (n : Nat) (h : 1 < n) : half n < n := halfGo_lt _ _ _ h
theorem half_pos (n : Nat) : 1 ≤ half n := halfGo_le _ _ _

/-- The last string of a list, the empty one if there is none. -/
def last (l : List ByteArray) : ByteArray := l.getLast?.getD ⟨#[]⟩

/-- The way up: the root that a path gives, what is left of it, and whether something was missing. -/
def ckUp : Nat → Nat → Nat → ByteArray → List ByteArray → Bool → ByteArray × List ByteArray × Bool
  | 0, _, _, _, l, s => (⟨#[]⟩, l, s)
  | f + 1, n, i, x, l, s =>
    if n ≤ 1 then (leaf x, l, s)
    else if i < half n then
      let r := ckUp f (half n) i x l.dropLast (s || (last l).size == 0)
      (node r.1 (last l), r.2)
    else
      let r := ckUp f (n - half n) (i - half n) x l.dropLast (s || (last l).size == 0)
      (node (last l) r.1, r.2)

def proper (l : List ByteArray) : Bool := l.all Dg.isD

def check (root : ByteArray) (n i : Int) (x : ByteArray) (path : List ByteArray) : Bool :=
  if n > 1000000 ∨ i < 0 ∨ i ≥ n ∨ proper path = false then false
  else
    let r := ckUp n.toNat n.toNat i.toNat x path false
    decide (r.1 = root) && (!r.2.2 && r.2.1.length == 0)

def empty : ByteArray := Dg.list [wEmpty]

end Go.Proofs.YtoimnllcniefoaaDoor.Tr
/- strings.Builder's writing at this program, from the library's own bodies: a builder that this call made takes a string behind what it holds. Turned by program (a worked proof's lines). -/
namespace Go.Proofs.YtoimnllcniefoaaDoor.P
open Go.Shelf Go.RowKit
set_option linter.unusedVariables false

theorem sizeBuilder : (Tryd.prog.info? 116).map (·.size) = some 2 := by kernel_rfl
theorem liesBuilder : liesAt Tryd.prog Tryd.prog.depth 116 (2 / Tryd.prog.cellsOf 116) 0 116 1 = true := by kernel_rfl
theorem infoByte : (Tryd.prog.info? 5).map (fun i => (i.zero, i.size, i.bytes)) = some (some (.int .u8 0), 1, 1) := by kernel_rfl
theorem neB5 : (116 : Nat) ≠ 5 := by decide

set_option maxHeartbeats 2000000 in
set_option maxRecDepth 100000 in
theorem builder_copyCheck_fresh (b : Nat) (w : World) (h0 : w.cell? ⟨b, 0, none⟩ = some (.pointer none)) (hsh : w.shape? b = some (116, 2)) (hfz : w.frozen? ⟨b, 0, none⟩ = false) :
    Calls Tryd.prog 89 #[.pointer (some ⟨b, 0, none⟩)] w fun e w' => e = .returned (.tuple #[]) ∧ w' = w.setCell ⟨b, 0, none⟩ (.pointer (some ⟨b, 0, none⟩)) := by
  obtain ⟨j, hj, hjs⟩ := Option.map_eq_some_iff.1 sizeBuilder
  have t72 := Tryd.underlying116; have a72 := Tryd.isAgg116; have z72 := Tryd.sizeOf116; have v72 := Tryd.zeroValue116; have u72 := run_underlying Tryd.underlying116
  have t70 := Tryd.underlying114; have a70 := Tryd.isAgg114; have z70 := Tryd.sizeOf114; have v70 := Tryd.zeroValue114; have u70 := run_underlying Tryd.underlying114
  have t9 := Tryd.underlying9; have a9 := Tryd.isAgg9; have z9 := Tryd.sizeOf9; have v9 := Tryd.zeroValue9; have u9 := run_underlying Tryd.underlying9
  have t4 := Tryd.underlying4; have a4 := Tryd.isAgg4; have z4 := Tryd.sizeOf4; have v4 := Tryd.zeroValue4; have u4 := run_underlying Tryd.underlying4
  have t164 := Tryd.underlying135; have a164 := Tryd.isAgg135; have z164 := Tryd.sizeOf135; have v164 := Tryd.zeroValue135; have u164 := run_underlying Tryd.underlying135
  go_enter Tryd.func89, Tryd.ntmps89
  go_wp2
  rw [Lib.run_to_unsafe w ⟨b, 0, none⟩ Tryd.underlying114 Tryd.underlying135 hj (by rw [hjs]; decide) hsh (Nat.zero_lt_succ 1)]
  simp only [Result.andThen]
  rw [Oper.upon_value]
  go_wp2
  rw [run_callFunc_extern Tryd.func99 (by kernel_rfl) (by kernel_rfl) (by kernel_rfl) (e := Extern.AbiNoEscape.same) (by kernel_rfl)]
  rw [Lib.run_noEscape]
  simp only [Result.andThen]
  rw [Oper.upon_value]
  go_wp2
  rw [Lib.run_from_unsafe w ⟨b, 0, none⟩ Tryd.underlying135 Tryd.underlying114 hj hsh liesBuilder]
  simp only [Result.andThen]
  rw [Oper.upon_value]
  go_wp2
  go_end0
  exact ⟨rfl, rfl⟩

set_option maxHeartbeats 2000000 in
set_option maxRecDepth 100000 in
theorem builder_copyCheck_used (b : Nat) (w : World) (h0 : w.cell? ⟨b, 0, none⟩ = some (.pointer (some ⟨b, 0, none⟩))) :
    Calls Tryd.prog 89 #[.pointer (some ⟨b, 0, none⟩)] w fun e w' => e = .returned (.tuple #[]) ∧ w' = w := by
  obtain ⟨j, hj, _⟩ := Option.map_eq_some_iff.1 sizeBuilder
  have t72 := Tryd.underlying116; have a72 := Tryd.isAgg116; have z72 := Tryd.sizeOf116; have v72 := Tryd.zeroValue116; have u72 := run_underlying Tryd.underlying116
  have t70 := Tryd.underlying114; have a70 := Tryd.isAgg114; have z70 := Tryd.sizeOf114; have v70 := Tryd.zeroValue114; have u70 := run_underlying Tryd.underlying114
  have t9 := Tryd.underlying9; have a9 := Tryd.isAgg9; have z9 := Tryd.sizeOf9; have v9 := Tryd.zeroValue9; have u9 := run_underlying Tryd.underlying9
  have t4 := Tryd.underlying4; have a4 := Tryd.isAgg4; have z4 := Tryd.sizeOf4; have v4 := Tryd.zeroValue4; have u4 := run_underlying Tryd.underlying4
  have t164 := Tryd.underlying135; have a164 := Tryd.isAgg135; have z164 := Tryd.sizeOf135; have v164 := Tryd.zeroValue135; have u164 := run_underlying Tryd.underlying135
  go_enter Tryd.func89, Tryd.ntmps89
  go_wp2
  rw [Lib.run_neq_ptr_same w _ Tryd.underlying114 hj]
  go_wp2
  go_end0
  exact ⟨rfl, rfl⟩

set_option maxHeartbeats 2000000 in
set_option maxRecDepth 100000 in
theorem builder_copyCheck (B b : Nat) (bs : List Value) (w : World) (h : Lib.IsBuilder 116 5 B b bs w) :
    Calls Tryd.prog 89 #[.pointer (some ⟨b, 0, none⟩)] w fun e w' => e = .returned (.tuple #[]) ∧ (Lib.BuilderAt 116 5 B b (.pointer (some ⟨b, 0, none⟩)) bs w' ∧ Below B w w') := by
  rcases h with h | h
  · refine (builder_copyCheck_fresh b w h.cell0 h.shape h.frozen0).mono ?_
    rintro e w' ⟨rfl, rfl⟩
    exact ⟨rfl, h.used _, (Below.refl B w).setCell (p := ⟨b, 0, none⟩) h.1 _⟩
  · refine (builder_copyCheck_used b w h.cell0).mono ?_
    rintro e w' ⟨rfl, rfl⟩
    exact ⟨rfl, h, Below.refl B _⟩

set_option maxHeartbeats 2000000 in
set_option maxRecDepth 100000 in
theorem builder_WriteString (B b : Nat) (bs : List Value) (s : ByteArray) (w : World) (h : Lib.IsBuilder 116 5 B b bs w) (hlen : bs.length + s.size ≤ 140737488355328) (hBw : B ≤ w.heap.size) :
    Calls Tryd.prog 78 #[.pointer (some ⟨b, 0, none⟩), .string s] w fun e w' => e = .returned (.tuple #[.int .i64 s.size, .nilIface]) ∧ (Lib.BuilderAt 116 5 B b (.pointer (some ⟨b, 0, none⟩)) (bs ++ Lib.strCells s) w' ∧ Below B w w') := by
  obtain ⟨i0, hi, hz0, hz1, hz2⟩ := info_parts infoByte
  have t72 := Tryd.underlying116; have a72 := Tryd.isAgg116; have z72 := Tryd.sizeOf116; have v72 := Tryd.zeroValue116; have u72 := run_underlying Tryd.underlying116
  have t70 := Tryd.underlying114; have a70 := Tryd.isAgg114; have z70 := Tryd.sizeOf114; have v70 := Tryd.zeroValue114; have u70 := run_underlying Tryd.underlying114
  have t37 := Tryd.underlying79; have a37 := Tryd.isAgg79; have z37 := Tryd.sizeOf79; have v37 := Tryd.zeroValue79; have u37 := run_underlying Tryd.underlying79
  have t3 := Tryd.underlying3; have a3 := Tryd.isAgg3; have z3 := Tryd.sizeOf3; have v3 := Tryd.zeroValue3; have u3 := run_underlying Tryd.underlying3
  have t9 := Tryd.underlying9; have a9 := Tryd.isAgg9; have z9 := Tryd.sizeOf9; have v9 := Tryd.zeroValue9; have u9 := run_underlying Tryd.underlying9
  have t4 := Tryd.underlying4; have a4 := Tryd.isAgg4; have z4 := Tryd.sizeOf4; have v4 := Tryd.zeroValue4; have u4 := run_underlying Tryd.underlying4
  have t164 := Tryd.underlying135; have a164 := Tryd.isAgg135; have z164 := Tryd.sizeOf135; have v164 := Tryd.zeroValue135; have u164 := run_underlying Tryd.underlying135
  have t5 := Tryd.underlying5; have a5 := Tryd.isAgg5; have z5 := Tryd.sizeOf5; have v5 := Tryd.zeroValue5; have u5 := run_underlying Tryd.underlying5
  have e240 : ∀ args w, (callFunc 89 args).run Tryd.prog w = .ok (.enter 89 args) w := enters_of Tryd.func89 (by kernel_rfl) rfl
  go_enter Tryd.func78, Tryd.ntmps78
  go_wp2_with (go_at_fn 89; refine (builder_copyCheck B b bs _ h).mono ?_)
  rintro e w1 ⟨rfl, h1, hb1⟩
  obtain ⟨hB, v, hbk, hown, hne⟩ := h1
  have c0 : w1.cell? ⟨b, 0, none⟩ = some (.pointer (some ⟨b, 0, none⟩)) := by rw [Lib.cell_of_heap hbk]; rfl
  have c1 : w1.cell? ⟨b, 1, none⟩ = some v := by rw [Lib.cell_of_heap hbk]; rfl
  go_wp2_with (at_builtin; refine Lib.wpList_append_own_string _ rfl _ _ 79 9 rfl B 5 i0 Tryd.underlying79 Tryd.underlying9 hi hz0 hz1 hz2 _ _ _ rfl hown s rfl ?c3 ?c4 ?c5 ?_)
  case c3 => unfold maxLen; omega
  case c4 => omega
  case c5 => have := hb1.size; omega
  intro v' w2 hown' hgrow _
  have hlt : b < w1.heap.size := by
    rcases Nat.lt_or_ge b w1.heap.size with h' | h'
    · exact h'
    · simp [Array.getElem?_eq_none h'] at hbk
  have hb2 : w2.heap[b]? = some (.cells #[.pointer (some ⟨b, 0, none⟩), v] 116 (0, 0)) := by
    rw [hgrow.block b hlt (fun e => hne e.symm)]
    exact hbk
  have d0 : w2.cell? ⟨b, 0, none⟩ = some (.pointer (some ⟨b, 0, none⟩)) := by rw [Lib.cell_of_heap hb2]; rfl
  have d1 : w2.cell? ⟨b, 1, none⟩ = some v := by rw [Lib.cell_of_heap hb2]; rfl
  have f1 : w2.frozen? ⟨b, 1, none⟩ = false := Lib.frozen_of_heap hb2 1
  obtain ⟨ao, n', cap, rfl⟩ : ∃ ao n' cap, v' = .slice ao n' cap := by
    rcases hown'.2 with ⟨hv, _⟩ | ⟨g, cap, cur, hv, _⟩
    · exact ⟨_, _, _, hv⟩
    · exact ⟨_, _, _, hv⟩
  go_wp2
  go_ret2
  refine ⟨rfl, ?_, ?_⟩
  · exact Lib.BuilderAt.put (T := 116) (e := 5) hB hb2 (bs' := bs ++ Lib.strCells s) (by simpa [Lib.strCells_length] using hown') neB5
  · exact (hb1.grown hgrow (by have := hb1.size; omega) (fun k hk => (hown.lt k hk).1)).setCell (p := ⟨b, 1, none⟩) hB _

end Go.Proofs.YtoimnllcniefoaaDoor.P
/- digest.List: the digest of the joined text of a list, by a strings.Builder and strconv.Itoa; only new memory is made. -/
namespace Go.Proofs.YtoimnllcniefoaaDoor.P
open Go.RowKit Go.Proofs.YtoimnllcniefoaaDoor Go.Proofs.YtoimnllcniefoaaDoorW.PrintWords Go.Proofs.YtoimnllcniefoaaDoorW.PrintLast Go.Proofs.YtoimnllcniefoaaDoorW.PrintMore
set_option linter.unusedVariables false

theorem ownsRow_below {w w' : World} {base e size n : Nat} {v : Value} {xs : List Value} (h : w.ownsRow base e size v n xs) (hb : Below w.heap.size w w') : w'.ownsRow base e size v n xs := by
  obtain ⟨h1, h2⟩ := h
  refine ⟨h1, ?_⟩
  rcases h2 with h2 | ⟨g, cap, cur, hv, hg, hh, r⟩
  · exact .inl h2
  · exact .inr ⟨g, cap, cur, hv, hg, (hb.block g (lt_of_block hh)).trans hh, r⟩

theorem builderAt_below {T e : TypeId} {B b : Nat} {p : Value} {bs : List Value} {w w' : World} (h : Lib.BuilderAt T e B b p bs w) (hb : Below w.heap.size w w') : Lib.BuilderAt T e B b p bs w' := by
  obtain ⟨h1, v, h2, h3, h4⟩ := h
  exact ⟨h1, v, (hb.block b (lt_of_block h2)).trans h2, ownsRow_below h3 hb, h4⟩

theorem isBuilder_below {T e : TypeId} {B b : Nat} {bs : List Value} {w w' : World} (h : Lib.IsBuilder T e B b bs w) (hb : Below w.heap.size w w') : Lib.IsBuilder T e B b bs w' :=
  h.imp (fun h => builderAt_below h hb) (fun h => builderAt_below h hb)

theorem itoa_any (n : Nat) (h1 : n ≤ 9223372036854775807) (w : World) (hT : Tabs w) :
    Calls Tryd.prog 37 #[.int .i64 (n : Int)] w fun e w' => e = .returned (.string ⟨(Lib.itoa (n : Int)).toArray⟩) ∧ Below w.heap.size w w' :=
  (Tryd.strconv_Itoa (n : Int) (by omega) (by omega) w hT).mono fun e w' ⟨he, k, os, hw⟩ => ⟨he, by rw [hw]; exact Lib.below_grow _ _ (Nat.le_refl _) k os⟩

theorem at_str {w : World} {A : Option Addr} {n : Nat} {l : List ByteArray} (h : Kd.C Kd.string w A n l) (k : Nat) (hk : k < n) (hl : k < l.length) : ∃ ad, A = some ad ∧ w.cell? (ad.add k) = some (.string l[k]) := by
  obtain ⟨ad, e, hc⟩ := Kd.at_string h (k : Int) (by omega) (by omega)
  refine ⟨ad, e, ?_⟩
  rw [Int.toNat_natCast] at hc
  rw [hc]
  simp [rdOf, List.getD, List.getElem?_eq_getElem hl]

theorem piece_string (s : ByteArray) : (⟨(Lib.itoa (s.size : Int)).toArray⟩ : ByteArray) ++ (⟨#[58]⟩ : ByteArray) ++ s = ⟨(Dg.piece s).toArray⟩ := by
  apply ByteArray.ext
  simp [Dg.piece, ByteArray.data_append]

set_option maxHeartbeats 4000000 in
set_option maxRecDepth 100000 in
theorem digest_list_any (A0 : Option Addr) (c0 : Nat) (l0 : List ByteArray) (w : World) (hr0 : Kd.C Kd.string w A0 l0.length l0) (hlen : l0.length ≤ 9223372036854775807) (hT : Tabs w) (hj : (Dg.joinedL l0).length ≤ 140737488355328) :
    Calls Tryd.prog 54 #[.slice A0 l0.length c0] w fun e w' => e = .returned (.string (Dg.list l0)) ∧ Below w.heap.size w w' := by
  go_enter Tryd.func54, Tryd.ntmps54
  go_wp2
  have HB0 := Lib.hid (Lib.fresh_isBuilder 116 5 w)
  have HBEL0 := Lib.hid ((Below.refl w.heap.size w).alloc (Nat.le_refl _) (.cells #[.pointer none, .slice none 0 0] 116))
  have HR := Lib.hid hr0
  have HT := Lib.hid hT
  clear hr0 hT
  generalize (w.alloc (.cells #[.pointer none, .slice none 0 0] 116)) = w1 at HB0 HBEL0 ⊢
  go_loopw [8] (fun i wq => ∃ k : Nat, k ≤ l0.length ∧ i = .int .i64 k ∧ Hid (Lib.IsBuilder 116 5 w.heap.size w.heap.size (Lib.byteCells (Dg.joinedL (l0.take k))) wq) ∧ Hid (Below w.heap.size w wq)) (fun i _ => l0.length - (intOf i).toNat)
  case atStart => exact ⟨0, Nat.zero_le _, rfl, HB0, HBEL0⟩
  case round =>
    obtain ⟨k, hk, rfl, HB, HBEL⟩ := hrel
    by_cases hlt : k < l0.length
    · obtain ⟨ad, rfl, hc⟩ := at_str (Kd.C_below HR.out HBEL.out) k hlt hlt
      have hle := Dg.joinedL_take_le l0 (k + 1)
      have hst := Dg.joinedL_take_succ l0 k hlt
      rw [hst, List.length_append] at hle
      have HST := Lib.hid hst
      have HLE := Lib.hid hle
      clear hst hle
      generalize l0[k] = s at hc HST HLE
      obtain ⟨x, hx⟩ : ∃ x : ByteArray, x = ⟨(Lib.itoa (s.size : Int)).toArray⟩ := ⟨_, rfl⟩
      have hps : (x ++ (⟨#[58]⟩ : ByteArray) ++ s) = ⟨(Dg.piece s).toArray⟩ := by rw [hx]; exact piece_string s
      have hxs : x.size = (Lib.itoa (s.size : Int)).length := by rw [hx]; exact List.size_toArray
      have hpl : (Dg.piece s).length = x.size + 1 + s.size := by
        rw [hxs]; simp [Dg.piece]; omega
      have hle := HLE.out
      rw [hpl] at hle
      have hf1 : x.size + 1 ≤ 9223372036854775807 := by omega
      have hxy : (x ++ (⟨#[58]⟩ : ByteArray)).size = x.size + 1 := by rw [ByteArray.size_append]; rfl
      have hf2 : (x ++ (⟨#[58]⟩ : ByteArray)).size + s.size ≤ 9223372036854775807 := by rw [hxy]; omega
      have hzz : s.size ≤ 9223372036854775807 := by omega
      have hit : ∀ W, Tabs W → Calls Tryd.prog 37 #[.int .i64 (s.size : Int)] W fun e w' => e = .returned (.string x) ∧ Below W.heap.size W w' := by
        rw [hx]; exact fun W h => itoa_any s.size hzz W h
      have HIT := Lib.hid hit
      have HPS := Lib.hid hps
      have hsz : (x ++ (⟨#[58]⟩ : ByteArray) ++ s).size = x.size + 1 + s.size := by rw [ByteArray.size_append, hxy]
      have HSZ := Lib.hid hsz
      have HLE2 := Lib.hid hle
      clear hx hps hxs hpl hle hxy hit hsz HLE
      go_wp2_with fail
      refine (HIT.out _ (tabs_below HT.out HBEL.out)).mono ?_
      rintro e w2 ⟨rfl, hb2⟩
      have HB2 := Lib.hid (isBuilder_below HB.out hb2)
      have HBEL2 := Lib.hid (HBEL.out.trans (hb2.mono HBEL.out.size))
      clear hb2 hc HB HBEL
      go_wp2_with fail
      refine (builder_WriteString w.heap.size w.heap.size _ _ _ HB2.out (by rw [HSZ.out, Lib.byteCells_length]; have := HLE2.out; omega) HBEL2.out.size).mono ?_
      rintro e w3 ⟨rfl, hb3, hbel3⟩
      have HB3 : Hid (Lib.IsBuilder 116 5 w.heap.size w.heap.size (Lib.byteCells (Dg.joinedL (l0.take (k + 1)))) w3) := by
        refine Lib.hid (.inr ?_)
        rw [HST.out]
        rw [HPS.out] at hb3
        have e : Lib.byteCells (Dg.joinedL (l0.take k) ++ Dg.piece s) = Lib.byteCells (Dg.joinedL (l0.take k)) ++ Lib.strCells ⟨(Dg.piece s).toArray⟩ := by
          rw [Lib.strCells_toArray]; simp [Lib.byteCells]
        rw [e]; exact hb3
      have HBEL3 := Lib.hid (HBEL2.out.trans hbel3)
      clear hb3 hbel3 HB2 HBEL2
      go_wp2
      go_roundw
      case rel => exact ⟨k + 1, by omega, by simp, HB3, HBEL3⟩
      case measure => simp [intOf]; omega
    · obtain rfl : k = l0.length := by omega
      have hall : Dg.joinedL (l0.take l0.length) = Dg.joinedL l0 := by rw [List.take_length]
      rw [hall] at HB
      clear hall hlt hk
      go_wp2_with fail
      refine (Tryd.Builder_String_any w.heap.size w.heap.size (Dg.joinedL l0) _ HB.out HBEL.out.size).mono ?_
      rintro e w2 ⟨rfl, hb2⟩
      have HBEL2 := Lib.hid (HBEL.out.trans hb2)
      clear hb2 HB HBEL
      go_wp2_with fail
      refine (digest_sum_any (⟨(Dg.joinedL l0).toArray⟩ : ByteArray) (by rw [show (⟨(Dg.joinedL l0).toArray⟩ : ByteArray).size = (Dg.joinedL l0).length from List.size_toArray]; omega) _).mono ?_
      rintro e w3 ⟨rfl, hb3⟩
      have HBEL3 := Lib.hid (HBEL2.out.trans (hb3.mono HBEL2.out.size))
      clear hb3
      go_wp2
      go_ret
      exact ⟨rfl, HBEL3.out⟩

def digest_List.f (l0 : List ByteArray) : Option ByteArray := if l0.length ≤ 9223372036854775807 ∧ (Dg.joinedL l0).length ≤ 140737488355328 then some (Dg.list l0) else none
theorem digest_List.calls (A0 : Option Addr) (c0 : Nat) (l0 : List ByteArray) (r : ByteArray) (w : World) (hr0 : Kd.C Kd.string w A0 l0.length l0) (hc0 : l0.length ≤ c0) (hT : Tabs w) (h : digest_List.f l0 = some r) :
    Calls Tryd.prog 54 #[.slice A0 l0.length c0] w fun e w' => e = .returned (.string r) ∧ Below w.heap.size w w' := by
  unfold digest_List.f at h
  split at h
  · rename_i hs
    cases h
    exact digest_list_any A0 c0 l0 w hr0 hs.1 hT hs.2
  · cases h
end Go.Proofs.YtoimnllcniefoaaDoor.P
/- digest.Is: sixteen bytes, each a hexadecimal digit; by strings.Trim. -/
namespace Go.Proofs.YtoimnllcniefoaaDoor.Dg
open Go
theorem dropWhile_nil (p : UInt8 → Bool) (l : List UInt8) : l.dropWhile p = [] ↔ l.all p = true := by
  induction l with
  | nil => simp
  | cons a l ih =>
    by_cases h : p a = true
    · rw [List.dropWhile_cons_of_pos h, ih, List.all_cons, h, Bool.true_and]
    · rw [List.dropWhile_cons_of_neg h]
      simp [h]

theorem trimS_nil (l cs : List UInt8) : Lib.trimS l cs = [] ↔ l.all (cs.contains ·) = true := by
  unfold Lib.trimS Lib.trimLeftS Lib.trimRightS
  rw [dropWhile_nil]
  constructor
  · intro h
    by_cases hr : l.reverse.dropWhile (cs.contains ·) = []
    · rw [dropWhile_nil] at hr; simpa using hr
    · exfalso
      cases hd : l.reverse.dropWhile (cs.contains ·) with
      | nil => exact hr hd
      | cons a r =>
        have hn := List.head?_dropWhile_not (cs.contains ·) l.reverse
        rw [hd] at hn h
        simp at hn h
        exact absurd h.2 (by simpa using hn)
  · intro h
    have : l.reverse.dropWhile (cs.contains ·) = [] := by rw [dropWhile_nil]; simpa using h
    rw [this]; rfl
end Go.Proofs.YtoimnllcniefoaaDoor.Dg
namespace Go.Proofs.YtoimnllcniefoaaDoor.P
open Go.RowKit Go.Proofs.YtoimnllcniefoaaDoor
set_option linter.unusedVariables false

theorem trim_any (s : ByteArray) (hs : s.size ≤ 9223372036854775807) (w : World) :
    Calls Tryd.prog 49 #[.string s, .string ⟨#[48, 49, 50, 51, 52, 53, 54, 55, 56, 57, 97, 98, 99, 100, 101, 102]⟩] w fun e w' => e = .returned (.string ⟨(Lib.trimS s.data.toList Dg.hexset).toArray⟩) ∧ Below w.heap.size w w' :=
  Any.strings_Trim_laid Tryd.lays160 (by kernel_rfl) s ⟨#[48, 49, 50, 51, 52, 53, 54, 55, 56, 57, 97, 98, 99, 100, 101, 102]⟩ w hs (by decide) (ascii_of_all (by decide))

set_option maxHeartbeats 1000000 in
theorem digest_is_no (s : ByteArray) (h : ¬ s.size = 16) (w : World) :
    Calls Tryd.prog 21 #[.string s] w fun e w' => e = .returned (.bool false) ∧ Below w.heap.size w w' := by
  have hb : ((s.size : Int) == 16) = false := beq_eq_false_iff_ne.mpr (by omega)
  have hd : decide ((s.size : Int) = 16) = false := decide_eq_false (by omega)
  go_enter Tryd.func21, Tryd.ntmps21
  go_wp2
  go_ret
  exact ⟨rfl, Below.refl _ _⟩

set_option maxHeartbeats 1000000 in
theorem digest_is_yes (s : ByteArray) (h : s.size = 16) (w : World) :
    Calls Tryd.prog 21 #[.string s] w fun e w' => e = .returned (.bool (s.data.toList.all (Dg.hexset.contains ·))) ∧ Below w.heap.size w w' := by
  have hb : ((s.size : Int) == 16) = true := by simp [h]
  have HB := Lib.hid hb
  obtain ⟨x, hx⟩ : ∃ x : ByteArray, x = ⟨(Lib.trimS s.data.toList Dg.hexset).toArray⟩ := ⟨_, rfl⟩
  have hc := trim_any s (by omega) w
  rw [← hx] at hc
  have HC := Lib.hid hc
  have HX := Lib.hid hx
  have H := Lib.hid h
  clear hx hc h
  go_enter Tryd.func21, Tryd.ntmps21
  go_wp2_with fail
  refine HC.out.mono ?_
  rintro e w' ⟨rfl, hbel⟩
  go_wp2
  go_ret
  refine ⟨?_, hbel⟩
  show Ending.returned (.bool x.toList.isEmpty) = _
  rw [HX.out, ByteArray.toList_eq]
  show Ending.returned (.bool (List.isEmpty (Lib.trimS s.data.toList Dg.hexset))) = _
  congr 2
  rw [Bool.eq_iff_iff, List.isEmpty_iff]
  exact Dg.trimS_nil _ _

def digest_Is.f (a0 : ByteArray) : Option Bool := some (Dg.isD a0)
theorem digest_Is.calls (a0 : ByteArray) (r : Bool) (w : World) (h : digest_Is.f a0 = some r) :
    Calls Tryd.prog 21 #[.string a0] w fun e w' => e = .returned (.bool r) ∧ Below w.heap.size w w' := by
  obtain rfl := Option.some.inj h
  unfold Dg.isD
  by_cases hs : a0.size = 16
  · have e : (a0.size == 16) = true := by simp [hs]
    rw [e, Bool.true_and]
    exact digest_is_yes a0 hs w
  · have e : (a0.size == 16) = false := by simp [hs]
    rw [e, Bool.false_and]
    exact digest_is_no a0 hs w
end Go.Proofs.YtoimnllcniefoaaDoor.P
/- strconv.Itoa of a number, as a given contract. -/
namespace Go.Proofs.YtoimnllcniefoaaDoor.P
open Go.RowKit Go.Proofs.YtoimnllcniefoaaDoor Go.Proofs.YtoimnllcniefoaaDoorW.PrintWords Go.Proofs.YtoimnllcniefoaaDoorW.PrintLast Go.Proofs.YtoimnllcniefoaaDoorW.PrintMore
set_option linter.unusedVariables false

def strconv_Itoa.f (a0 : Int) : Option ByteArray := if -9223372036854775808 ≤ a0 ∧ a0 ≤ 9223372036854775807 then some ⟨(Lib.itoa a0).toArray⟩ else none
theorem strconv_Itoa.calls (a0 : Int) (r : ByteArray) (w : World) (hT : Tabs w) (h : strconv_Itoa.f a0 = some r) :
    Calls Tryd.prog 37 #[.int .i64 a0] w fun e w' => e = .returned (.string r) ∧ Below w.heap.size w w' := by
  unfold strconv_Itoa.f at h
  split at h
  · rename_i hs
    cases h
    exact (Tryd.strconv_Itoa a0 hs.1 hs.2 w hT).mono fun e w' ⟨he, k, os, hw⟩ => ⟨he, by rw [hw]; exact Lib.below_grow _ _ (Nat.le_refl _) k os⟩
  · cases h
end Go.Proofs.YtoimnllcniefoaaDoor.P
