import Derived.Test.YtfhdknjccmcgdaaDoorKPx0
import Derived.Test.YtfhdknjccmcgdaaDoorKCL
import Derived.Test.YtfhdknjccmcgdaaDoorKSc
set_option linter.unusedVariables false
set_option linter.unusedSimpArgs false
-- PRINTED by print.py (a twelfth state) out of the translation. Not trusted: Lean checks it.
namespace Go.Proofs.YtfhdknjccmcgdaaDoor.P
open Go.RowKit Go.Proofs.YtfhdknjccmcgdaaDoorW.PrintWords Go.Proofs.YtfhdknjccmcgdaaDoorW.PrintLast Go.Proofs.YtfhdknjccmcgdaaDoorW.PrintMore
attribute [local go_sem] max2_int min2_int max_two min_two max_three min_three max_four min_four   -- for this text's walks alone
set_option linter.unusedVariables false
set_option linter.unusedSimpArgs false

/-! ### pandectlaw03_SealChanges: function 6 -/
mutual
def pandectlaw03_SealChanges.j0 : Nat → ByteArray → ByteArray → Int → ByteArray → Bool → Int → ByteArray → Bool → Int → List ByteArray → List ByteArray → Option (Bool)
 | 0, _, _, _, _, _, _, _, _, _, _, _ => none
 | k + 1, x0, x3, x4, x5, x13, x14, x16, x70, x117000, x117001, x117002 => if x70 = true then (some false) else ((some (([] : List ByteArray) : List ByteArray)).bind fun y117 => (if y117.length + x117001.length < 8796093022208 then ((some (y117 ++ x117001 : List ByteArray)).bind fun y120 => ((some (([] : List ByteArray) : List ByteArray)).bind fun y123 => (if y123.length + x117002.length < 8796093022208 then ((some (y123 ++ x117002 : List ByteArray)).bind fun y126 => (if (wrap64 (19 + x14)) = 0 then (none) else (if (Int.tmod (wrap64 (x4)) (wrap64 (19 + x14))) < 18 then (if 0 ≤ (Int.tmod (wrap64 (x4)) (wrap64 (19 + x14))) then (if (Int.tmod (wrap64 (x4)) (wrap64 (19 + x14))) < (y120.length : Int) then (pandectlaw03_SealChanges.j1 k x0 x3 x13 x14 x16 x117000 x117001 x117002 x117000 (y120.set ((Int.tmod (wrap64 (x4)) (wrap64 (19 + x14))) : Int).toNat x5) y126) else (none)) else (none)) else (if (Int.tmod (wrap64 (x4)) (wrap64 (19 + x14))) < (wrap64 (18 + x14)) then (if 0 ≤ (wrap64 ((Int.tmod (wrap64 (x4)) (wrap64 (19 + x14))) - 18)) then (if (wrap64 ((Int.tmod (wrap64 (x4)) (wrap64 (19 + x14))) - 18)) < (y126.length : Int) then (pandectlaw03_SealChanges.j1 k x0 x3 x13 x14 x16 x117000 x117001 x117002 x117000 y120 (y126.set ((wrap64 ((Int.tmod (wrap64 (x4)) (wrap64 (19 + x14))) - 18)) : Int).toNat x5)) else (none)) else (none)) else (if 0 ≤ x14 then (if (shl .i64 1 x14) = 0 then (none) else (pandectlaw03_SealChanges.j1 k x0 x3 x13 x14 x16 x117000 x117001 x117002 (Int.tmod (wrap64 (x117000 + 1)) (shl .i64 1 x14)) y120 y126)) else (none)))))) else (none)))) else (none)))
def pandectlaw03_SealChanges.j1 : Nat → ByteArray → ByteArray → Bool → Int → ByteArray → Int → List ByteArray → List ByteArray → Int → List ByteArray → List ByteArray → Option (Bool)
 | 0, _, _, _, _, _, _, _, _, _, _, _ => none
 | k + 1, x0, x3, x13, x14, x16, x117000, x117001, x117002, x130000, x130001, x130002 => (pandectref03_Same.f k x130000 x130001 x130002 x117000 x117001 x117002).bind fun t132 => (if t132 = true then (pandectlaw03_SealChanges.j2 k x0 x3 x13 x14 true x130000 x130001 x130002) else ((seal_Verify.f k x16 x3 x130000 x130001 x130002).bind fun t133 => (pandectlaw03_SealChanges.j2 k x0 x3 x13 x14 (!t133) x130000 x130001 x130002)))
def pandectlaw03_SealChanges.j2 : Nat → ByteArray → ByteArray → Bool → Int → Bool → Int → List ByteArray → List ByteArray → Option (Bool)
 | 0, _, _, _, _, _, _, _, _ => none
 | k + 1, x0, x3, x13, x14, x120, x130000, x130001, x130002 => if x120 = true then (some x13) else (if x13 = true then ((pandectref03_Made.f k x0 x14 15).bind fun t134 => ((pandectref03_Checked.f k x3 x130000 x130001 x130002).bind fun t137 => (if t134.length + t137.length < 8796093022208 then ((pandectref02_Shown.f k (t134 ++ t137)).bind fun t143 => (some t143)) else (none)))) else (some false))
end
def pandectlaw03_SealChanges.f (k : Nat) (a0 : ByteArray) (a1 : Int) (a2 : Int) (a3 : ByteArray) (a4 : Int) (a5 : ByteArray) : Option (Bool) := (pandectlaw03_head.f k).bind fun t101 => (if 0 ≤ (Int.tmod (wrap64 (a1)) 3) then (if (shl .i64 1 (Int.tmod (wrap64 (a1)) 3)) = 0 then (none) else ((pandectlaw03_short.f k (([a0, a3, a5] : List ByteArray))).bind fun t105 => (if t105 = true then ((seal_Public.f k a0 (Int.tmod (wrap64 (a1)) 3)).bind fun bt106 => ((seal_Sign.f k a0 (Int.tmod (wrap64 (a1)) 3) (Int.tmod (wrap64 (a2)) (shl .i64 1 (Int.tmod (wrap64 (a1)) 3))) a3).bind fun bt108 => (if bt106.2 = 0 then (if bt108.2.2.2 = 0 then (if (bt108.2.1.length : Int) = 18 then (pandectlaw03_SealChanges.j0 k a0 a3 a4 a5 t101 (Int.tmod (wrap64 (a1)) 3) bt106.1 ((bt108.2.2.1.length : Int) != (Int.tmod (wrap64 (a1)) 3)) bt108.1 bt108.2.1 bt108.2.2.1) else (pandectlaw03_SealChanges.j0 k a0 a3 a4 a5 t101 (Int.tmod (wrap64 (a1)) 3) bt106.1 true bt108.1 bt108.2.1 bt108.2.2.1)) else (pandectlaw03_SealChanges.j0 k a0 a3 a4 a5 t101 (Int.tmod (wrap64 (a1)) 3) bt106.1 true bt108.1 bt108.2.1 bt108.2.2.1)) else (pandectlaw03_SealChanges.j0 k a0 a3 a4 a5 t101 (Int.tmod (wrap64 (a1)) 3) bt106.1 true bt108.1 bt108.2.1 bt108.2.2.1)))) else (some t101)))) else (none))
def pandectlaw03_SealChanges.T10 : Bool × List (List Nat × List Nat) := (true, [([], []), ([0], [0]), ([], []), ([], []), ([3], [3]), ([2, 4], [2, 4]), ([], []), ([], []), ([7], [7]), ([6, 8, 5], [6, 8]), ([1, 5, 9], [1, 5, 9]), ([], []), ([11, 10, 9, 0, 1, 2, 3, 4, 5, 6, 7, 8, 9, 10, 11], [10, 11])])
def pandectlaw03_SealChanges.B10 : List Nat := [0, 1, 0, 0, 8, 28, 0, 0, 128, 508, 1023, 0, 4095]
theorem pandectlaw03_SealChanges.tab10 : rtab .any (opsOf Tryd.f6 10) = pandectlaw03_SealChanges.T10 := by kernel_rfl
theorem pandectlaw03_SealChanges.bits10 : waitsOk pandectlaw03_SealChanges.T10.2 pandectlaw03_SealChanges.B10 = true := by kernel_rfl
def pandectlaw03_SealChanges.T16 : Bool × List (List Nat × List Nat) := (true, [([], []), ([0], [0]), ([1], [1]), ([], []), ([3], [3]), ([2, 4], [2, 4]), ([0, 1, 2, 3, 4, 5], []), ([6, 5, 0, 1, 2, 3, 4, 5], [5, 6])])
def pandectlaw03_SealChanges.B16 : List Nat := [0, 1, 3, 0, 8, 31, 63, 127]
theorem pandectlaw03_SealChanges.tab16 : rtab .any (opsOf Tryd.f6 16) = pandectlaw03_SealChanges.T16 := by kernel_rfl
theorem pandectlaw03_SealChanges.bits16 : waitsOk pandectlaw03_SealChanges.T16.2 pandectlaw03_SealChanges.B16 = true := by kernel_rfl
def pandectlaw03_SealChanges.T19 : Bool × List (List Nat × List Nat) := (true, [([], []), ([0], [0]), ([1], [1]), ([1], [1]), ([2, 3, 1, 1], [1, 2, 3]), ([1], [1]), ([1], [1]), ([5, 6, 4, 1], [1, 5, 6]), ([4, 7, 7, 1], [1, 4, 7]), ([8, 8, 1], [1, 8]), ([1, 9], [1, 9]), ([10, 9, 0, 1, 2, 3, 4, 5, 6, 7, 8, 9, 10], [10])])
def pandectlaw03_SealChanges.B19 : List Nat := [0, 1, 3, 3, 15, 3, 3, 127, 255, 511, 1023, 2047]
theorem pandectlaw03_SealChanges.tab19 : rtab .any (opsOf Tryd.f6 19) = pandectlaw03_SealChanges.T19 := by kernel_rfl
theorem pandectlaw03_SealChanges.bits19 : waitsOk pandectlaw03_SealChanges.T19.2 pandectlaw03_SealChanges.B19 = true := by kernel_rfl
theorem upK {w W : World} {b : Nat} {o : Obj} (h : w.heap[b]? = some o) [u : Nonempty (UpS w W)] : W.heap[b]? = some o := blk_below h (upOf u)
set_option maxHeartbeats 8000000 in
set_option maxRecDepth 100000 in
theorem pandectlaw03_SealChanges.calls (k : Nat) (a0 : ByteArray) (a1 : Int) (a2 : Int) (a3 : ByteArray) (a4 : Int) (a5 : ByteArray) (r : Bool) (w : World) (hT : Tabs w) (h : pandectlaw03_SealChanges.f k a0 a1 a2 a3 a4 a5 = some r) :
  Calls Tryd.prog 6 #[.string a0, .int .u8 a1, .int .u8 a2, .string a3, .int .u8 a4, .string a5] w fun e w' => e = .returned (.bool r) ∧ Below w.heap.size w w' := by
 have hu29 := Tryd.underlying29
 have HT := Aside0.mk hT
 clear hT
 have HB := Aside0.mk (Below.refl w.heap.size w)
 have H : ((pandectlaw03_head.f k).bind fun t101 => (if 0 ≤ (Int.tmod (wrap64 (a1)) 3) then (if (shl .i64 1 (Int.tmod (wrap64 (a1)) 3)) = 0 then (none) else ((pandectlaw03_short.f k (([a0, a3, a5] : List ByteArray))).bind fun t105 => (if t105 = true then ((seal_Public.f k a0 (Int.tmod (wrap64 (a1)) 3)).bind fun bt106 => ((seal_Sign.f k a0 (Int.tmod (wrap64 (a1)) 3) (Int.tmod (wrap64 (a2)) (shl .i64 1 (Int.tmod (wrap64 (a1)) 3))) a3).bind fun bt108 => (if bt106.2 = 0 then (if bt108.2.2.2 = 0 then (if (bt108.2.1.length : Int) = 18 then (pandectlaw03_SealChanges.j0 k a0 a3 a4 a5 t101 (Int.tmod (wrap64 (a1)) 3) bt106.1 ((bt108.2.2.1.length : Int) != (Int.tmod (wrap64 (a1)) 3)) bt108.1 bt108.2.1 bt108.2.2.1) else (pandectlaw03_SealChanges.j0 k a0 a3 a4 a5 t101 (Int.tmod (wrap64 (a1)) 3) bt106.1 true bt108.1 bt108.2.1 bt108.2.2.1)) else (pandectlaw03_SealChanges.j0 k a0 a3 a4 a5 t101 (Int.tmod (wrap64 (a1)) 3) bt106.1 true bt108.1 bt108.2.1 bt108.2.2.1)) else (pandectlaw03_SealChanges.j0 k a0 a3 a4 a5 t101 (Int.tmod (wrap64 (a1)) 3) bt106.1 true bt108.1 bt108.2.1 bt108.2.2.1)))) else (some t101)))) else (none))) = some r := h
 clear h
 replace H := Option.bind_eq_some_iff.mp H
 obtain ⟨t101, A70, H⟩ := H
 replace H : (if 0 ≤ (Int.tmod (wrap64 (a1)) 3) then (if (shl .i64 1 (Int.tmod (wrap64 (a1)) 3)) = 0 then (none) else ((pandectlaw03_short.f k (([a0, a3, a5] : List ByteArray))).bind fun t105 => (if t105 = true then ((seal_Public.f k a0 (Int.tmod (wrap64 (a1)) 3)).bind fun bt106 => ((seal_Sign.f k a0 (Int.tmod (wrap64 (a1)) 3) (Int.tmod (wrap64 (a2)) (shl .i64 1 (Int.tmod (wrap64 (a1)) 3))) a3).bind fun bt108 => (if bt106.2 = 0 then (if bt108.2.2.2 = 0 then (if (bt108.2.1.length : Int) = 18 then (pandectlaw03_SealChanges.j0 k a0 a3 a4 a5 t101 (Int.tmod (wrap64 (a1)) 3) bt106.1 ((bt108.2.2.1.length : Int) != (Int.tmod (wrap64 (a1)) 3)) bt108.1 bt108.2.1 bt108.2.2.1) else (pandectlaw03_SealChanges.j0 k a0 a3 a4 a5 t101 (Int.tmod (wrap64 (a1)) 3) bt106.1 true bt108.1 bt108.2.1 bt108.2.2.1)) else (pandectlaw03_SealChanges.j0 k a0 a3 a4 a5 t101 (Int.tmod (wrap64 (a1)) 3) bt106.1 true bt108.1 bt108.2.1 bt108.2.2.1)) else (pandectlaw03_SealChanges.j0 k a0 a3 a4 a5 t101 (Int.tmod (wrap64 (a1)) 3) bt106.1 true bt108.1 bt108.2.1 bt108.2.2.1)))) else (some t101)))) else (none)) = some r := H
 have A7 := Aside0.mk A70
 clear A70
 obtain ⟨ji8, hji8⟩ : ∃ j_ : Int, (Int.tmod (wrap64 (a1)) 3) = j_ := ⟨_, rfl⟩
 replace H : (if 0 ≤ (ji8) then (if (shl .i64 1 (ji8)) = 0 then (none) else ((pandectlaw03_short.f k (([a0, a3, a5] : List ByteArray))).bind fun t105 => (if t105 = true then ((seal_Public.f k a0 (ji8)).bind fun bt106 => ((seal_Sign.f k a0 (ji8) (Int.tmod (wrap64 (a2)) (shl .i64 1 (ji8))) a3).bind fun bt108 => (if bt106.2 = 0 then (if bt108.2.2.2 = 0 then (if (bt108.2.1.length : Int) = 18 then (pandectlaw03_SealChanges.j0 k a0 a3 a4 a5 t101 ji8 bt106.1 ((bt108.2.2.1.length : Int) != (ji8)) bt108.1 bt108.2.1 bt108.2.2.1) else (pandectlaw03_SealChanges.j0 k a0 a3 a4 a5 t101 ji8 bt106.1 true bt108.1 bt108.2.1 bt108.2.2.1)) else (pandectlaw03_SealChanges.j0 k a0 a3 a4 a5 t101 ji8 bt106.1 true bt108.1 bt108.2.1 bt108.2.2.1)) else (pandectlaw03_SealChanges.j0 k a0 a3 a4 a5 t101 ji8 bt106.1 true bt108.1 bt108.2.1 bt108.2.2.1)))) else (some t101)))) else (none)) = some r := by first | (rw [hji8] at H; exact H) | (simp only [hji8] at H ⊢; exact H)
 (try rw [hji8] at A7)
 by_cases c9 : 0 ≤ (ji8)
 ·rw [if_pos c9] at H
  have c9b0 := eq_true c9
  have c9b1 : decide (0 ≤ (ji8)) = true := decide_eq_true c9
  clear c9
  obtain ⟨ji10, hji10⟩ : ∃ j_ : Int, (shl .i64 1 (ji8)) = j_ := ⟨_, rfl⟩
  replace H : (if (ji10) = 0 then (none) else ((pandectlaw03_short.f k (([a0, a3, a5] : List ByteArray))).bind fun t105 => (if t105 = true then ((seal_Public.f k a0 (ji8)).bind fun bt106 => ((seal_Sign.f k a0 (ji8) (Int.tmod (wrap64 (a2)) (ji10)) a3).bind fun bt108 => (if bt106.2 = 0 then (if bt108.2.2.2 = 0 then (if (bt108.2.1.length : Int) = 18 then (pandectlaw03_SealChanges.j0 k a0 a3 a4 a5 t101 ji8 bt106.1 ((bt108.2.2.1.length : Int) != (ji8)) bt108.1 bt108.2.1 bt108.2.2.1) else (pandectlaw03_SealChanges.j0 k a0 a3 a4 a5 t101 ji8 bt106.1 true bt108.1 bt108.2.1 bt108.2.2.1)) else (pandectlaw03_SealChanges.j0 k a0 a3 a4 a5 t101 ji8 bt106.1 true bt108.1 bt108.2.1 bt108.2.2.1)) else (pandectlaw03_SealChanges.j0 k a0 a3 a4 a5 t101 ji8 bt106.1 true bt108.1 bt108.2.1 bt108.2.2.1)))) else (some t101)))) = some r := by first | (rw [hji10] at H; exact H) | (simp only [hji10] at H ⊢; exact H)
  (try rw [hji10] at A7)
  have hji10_ : (IntKind.i64.wrap (1 * 2 ^ min (ji8).toNat 64)) = ji10 := hji10
  have hji10z : (ji8) ≤ 64 → (IntKind.i64.wrap (1 * 2 ^ (ji8).toNat)) = ji10 := shl_small hji10
  have hji10u : (IntKind.i64.wrap (2 ^ min (ji8).toNat 64)) = ji10 := by have h_ := hji10_; rw [Int.one_mul] at h_; exact h_
  have hji10v : (ji8) ≤ 64 → (IntKind.i64.wrap (2 ^ (ji8).toNat)) = ji10 := fun hle_ => by have h_ := hji10z hle_; rw [Int.one_mul] at h_; exact h_
  have hji10y : (wrap64 (1 * 2 ^ min (ji8).toNat 64)) = ji10 := (i64_w _).symm.trans hji10_
  have hji10x : (ji8) ≤ 64 → (wrap64 (1 * 2 ^ (ji8).toNat)) = ji10 := fun h_ => (i64_w _).symm.trans (hji10z h_)
  by_cases c11 : (ji10) = 0
  ·rw [if_pos c11] at H
   exact absurd H (by simp)
  ·rw [if_neg c11] at H
   have c11b0 : ((ji10) == 0) = false := beq_eq_false_iff_ne.mpr c11
   have c11b1 : ((ji10) != 0) = true := bne_iff_ne.mpr c11
   obtain ⟨y102, hy102⟩ : ∃ y_ : List ByteArray, y_ = (([a0, a3, a5] : List ByteArray)) := ⟨_, rfl⟩
   replace H : ((pandectlaw03_short.f k y102).bind fun t105 => (if t105 = true then ((seal_Public.f k a0 (ji8)).bind fun bt106 => ((seal_Sign.f k a0 (ji8) (Int.tmod (wrap64 (a2)) (ji10)) a3).bind fun bt108 => (if bt106.2 = 0 then (if bt108.2.2.2 = 0 then (if (bt108.2.1.length : Int) = 18 then (pandectlaw03_SealChanges.j0 k a0 a3 a4 a5 t101 ji8 bt106.1 ((bt108.2.2.1.length : Int) != (ji8)) bt108.1 bt108.2.1 bt108.2.2.1) else (pandectlaw03_SealChanges.j0 k a0 a3 a4 a5 t101 ji8 bt106.1 true bt108.1 bt108.2.1 bt108.2.2.1)) else (pandectlaw03_SealChanges.j0 k a0 a3 a4 a5 t101 ji8 bt106.1 true bt108.1 bt108.2.1 bt108.2.2.1)) else (pandectlaw03_SealChanges.j0 k a0 a3 a4 a5 t101 ji8 bt106.1 true bt108.1 bt108.2.1 bt108.2.2.1)))) else (some t101))) = some r := by first | (rw [hy102]; with_reducible exact H) | (have H2_ := (Option.bind_some _ _).symm.trans H; rw [hy102]; with_reducible exact H2_) | (have H2_ := (Option.bind_some _ _).symm.trans H; with_reducible exact H2_) | with_reducible exact H | (rw [hy102]; exact H) | exact H
   have Ny102 := Aside0.mk hy102
   clear hy102
   replace H := Option.bind_eq_some_iff.mp H
   obtain ⟨t105, A120, H⟩ := H
   replace H : (if t105 = true then ((seal_Public.f k a0 (ji8)).bind fun bt106 => ((seal_Sign.f k a0 (ji8) (Int.tmod (wrap64 (a2)) (ji10)) a3).bind fun bt108 => (if bt106.2 = 0 then (if bt108.2.2.2 = 0 then (if (bt108.2.1.length : Int) = 18 then (pandectlaw03_SealChanges.j0 k a0 a3 a4 a5 t101 ji8 bt106.1 ((bt108.2.2.1.length : Int) != (ji8)) bt108.1 bt108.2.1 bt108.2.2.1) else (pandectlaw03_SealChanges.j0 k a0 a3 a4 a5 t101 ji8 bt106.1 true bt108.1 bt108.2.1 bt108.2.2.1)) else (pandectlaw03_SealChanges.j0 k a0 a3 a4 a5 t101 ji8 bt106.1 true bt108.1 bt108.2.1 bt108.2.2.1)) else (pandectlaw03_SealChanges.j0 k a0 a3 a4 a5 t101 ji8 bt106.1 true bt108.1 bt108.2.1 bt108.2.2.1)))) else (some t101)) = some r := H
   have A12 := Aside0.mk A120
   clear A120
   by_cases c13 : t105 = true
   ·subst c13
    have H1 : ((seal_Public.f k a0 (ji8)).bind fun bt106 => ((seal_Sign.f k a0 (ji8) (Int.tmod (wrap64 (a2)) (ji10)) a3).bind fun bt108 => (if bt106.2 = 0 then (if bt108.2.2.2 = 0 then (if (bt108.2.1.length : Int) = 18 then (pandectlaw03_SealChanges.j0 k a0 a3 a4 a5 t101 ji8 bt106.1 ((bt108.2.2.1.length : Int) != (ji8)) bt108.1 bt108.2.1 bt108.2.2.1) else (pandectlaw03_SealChanges.j0 k a0 a3 a4 a5 t101 ji8 bt106.1 true bt108.1 bt108.2.1 bt108.2.2.1)) else (pandectlaw03_SealChanges.j0 k a0 a3 a4 a5 t101 ji8 bt106.1 true bt108.1 bt108.2.1 bt108.2.2.1)) else (pandectlaw03_SealChanges.j0 k a0 a3 a4 a5 t101 ji8 bt106.1 true bt108.1 bt108.2.1 bt108.2.2.1)))) = some r := by rw [if_pos rfl] at H; exact H
    clear H
    have H := H1
    clear H1
    replace H := Option.bind_eq_some_iff.mp H
    obtain ⟨⟨t106, t107⟩, A140, H⟩ := H
    replace H : ((seal_Sign.f k a0 (ji8) (Int.tmod (wrap64 (a2)) (ji10)) a3).bind fun bt108 => (if t107 = 0 then (if bt108.2.2.2 = 0 then (if (bt108.2.1.length : Int) = 18 then (pandectlaw03_SealChanges.j0 k a0 a3 a4 a5 t101 ji8 t106 ((bt108.2.2.1.length : Int) != (ji8)) bt108.1 bt108.2.1 bt108.2.2.1) else (pandectlaw03_SealChanges.j0 k a0 a3 a4 a5 t101 ji8 t106 true bt108.1 bt108.2.1 bt108.2.2.1)) else (pandectlaw03_SealChanges.j0 k a0 a3 a4 a5 t101 ji8 t106 true bt108.1 bt108.2.1 bt108.2.2.1)) else (pandectlaw03_SealChanges.j0 k a0 a3 a4 a5 t101 ji8 t106 true bt108.1 bt108.2.1 bt108.2.2.1))) = some r := H
    have A14 := Aside0.mk A140
    clear A140
    replace H := Option.bind_eq_some_iff.mp H
    obtain ⟨⟨t108, t109, t112, t115⟩, A150, H⟩ := H
    replace H : (if t107 = 0 then (if t115 = 0 then (if (t109.length : Int) = 18 then (pandectlaw03_SealChanges.j0 k a0 a3 a4 a5 t101 ji8 t106 ((t112.length : Int) != (ji8)) t108 t109 t112) else (pandectlaw03_SealChanges.j0 k a0 a3 a4 a5 t101 ji8 t106 true t108 t109 t112)) else (pandectlaw03_SealChanges.j0 k a0 a3 a4 a5 t101 ji8 t106 true t108 t109 t112)) else (pandectlaw03_SealChanges.j0 k a0 a3 a4 a5 t101 ji8 t106 true t108 t109 t112)) = some r := H
    have A15 := Aside0.mk A150
    clear A150
    have HC16 := Aside0.mk H
    clear H
    go_enter Tryd.func6, Tryd.ntmps6
    go_upto_region 8 with (first | ((with_reducible refine gate_callee (f := 9) rfl ?_); refine goesL_ (some 22) rfl rfl Tryd.func9 (by kernel_rfl) rfl #[] rfl (by (try simp only [List.map_toArray, List.map_cons, List.map_nil]); first | done | rfl | (simp only [List.length_drop, List.length_take]; rfl)) ?_; (with_reducible refine (pandectlaw03_head.calls k  t101 _ ?side1 A7.out).mono ?_); (case side1 => exact tabs_below HT.out (by first | exact upB HB.out | exact HB.out)); rintro e w17 ⟨rfl, hb⟩; refine ⟨_, rfl, ?_⟩; have n0_ := Aside0.mk (below_step (by first | exact upB HB.out | exact HB.out) hb); clear HB; have HB := n0_; clear n0_; (try clear hb); (try clear hb2); (try clear hk); (try clear hi)) | ((with_reducible refine gate_dst (N := 34) rfl ?_); (try (refine gate_guard (by rfl) ?_; dsimp only)); refine Kd.R_lit Kd.string _ 9 ?hg (N := 34) ?hd (xs := ([a0, a3, a5] : List ByteArray)) (inner := [.string a0, .string a3, .string a5]) (ok := fun _ => True) (okp := fun _ => True) ?hr ?hp (fun _ hk => hk) trivial (Below.refl _ _) (Nat.le_refl _) (by simp) ?_; (case hd => rfl); (case hg => rfl); (case hr => first | (go_simp; done) | (go_simp; rfl)); (case hp => exact (Reps.one (show Kd.M Kd.string _ _ _ a0 [.string a0] from rfl) (Reps.one (show Kd.M Kd.string _ _ _ a3 [.string a3] from rfl) (Reps.one (show Kd.M Kd.string _ _ _ a5 [.string a5] from rfl) (Reps.none _ _))))); intro v103 w18 ho19 hb hg_ hnew_; clear hg_ hnew_; (first | rw [← Ny102.out] at ho19 | (simp only [Int.reduceToNat] at ho19; rw [← Ny102.out] at ho19)); have n0_ := Aside0.mk (Kd.R_lower ho19 (below_size (by first | exact upB HB.out | exact HB.out))); have n1_ := Aside0.mk (below_step (by first | exact upB HB.out | exact HB.out) hb); clear HB; have HO104 := n0_; have HB := n1_; clear n0_ n1_; clear hb ho19; obtain ⟨Ao20, co20, eo20⟩ := Kd.R_slice HO104.out; subst eo20) | ((with_reducible refine gate_callee (f := 10) rfl ?_); refine goesL_ (some 35) rfl rfl Tryd.func10 (by kernel_rfl) rfl #[.slice Ao20 y102.length co20] rfl (by (try simp only [List.map_toArray, List.map_cons, List.map_nil]); first | done | rfl | (simp only [List.length_drop, List.length_take]; rfl)) ?_; (with_reducible refine (pandectlaw03_short.calls k _ _ y102 true _ ?side1 ?side2 A12.out).mono ?_); (case side1 => exact upC ((Kd.R_reads' HO104.out).2.2)); (case side2 => exact (Kd.R_reads' HO104.out).2.1); rintro e w' ⟨rfl, ⟨nd, rfl⟩⟩; refine ⟨_, rfl, ?_⟩; (try (rw [drewN_self w18]; generalize hq_ : World.drewN w18 _ = w18; have n0_ : Aside0 (Kd.R Kd.string 9 w18 w.heap.size (fun _ => True) (.slice Ao20 y102.length co20) y102) := ⟨by rw [← hq_]; exact (by exact upR HO104.out)⟩; have n1_ : Aside0 (Below w.heap.size w w18) := ⟨by rw [← hq_]; exact (by first | exact upB HB.out | exact HB.out)⟩; clear HO104 HB hq_; have HO104 := n0_; have HB := n1_; clear n0_ n1_))) | ((with_reducible refine gate_callee (f := 11) rfl ?_); refine goesL_ (some 41) rfl rfl Tryd.func11 (by kernel_rfl) rfl #[.string a0, .int .i64 ji8] rfl (by (try simp only [List.map_toArray, List.map_cons, List.map_nil]); first | done | (simp only [hji8]; rfl) | rfl | (simp only [List.length_drop, List.length_take]; rfl)) ?_; (with_reducible refine (seal_Public.calls k a0 ji8 t106 t107 _ ?side1 A14.out).mono ?_); (case side1 => exact tabs_below HT.out (by first | exact upB HB.out | exact HB.out)); rintro e w21 ⟨rfl, hb⟩; refine ⟨_, rfl, ?_⟩; have n0_ := Aside0.mk (Kd.R_below (by exact upR HO104.out) hb); have n1_ := Aside0.mk (below_step (by first | exact upB HB.out | exact HB.out) hb); clear HO104; clear HB; have HO104 := n0_; have HB := n1_; clear n0_ n1_; (try clear hb); (try clear hb2); (try clear hk); (try clear hi)) | ((with_reducible refine gate_callee (f := 12) rfl ?_); refine goesL_ (some 49) rfl rfl Tryd.func12 (by kernel_rfl) rfl #[.string a0, .int .i64 ji8, .int .i64 (Int.tmod (wrap64 (a2)) (ji10)), .string a3] rfl (by (try simp only [List.map_toArray, List.map_cons, List.map_nil]); first | done | (simp only [hji10, hji8]; rfl) | rfl | (simp only [List.length_drop, List.length_take]; rfl)) ?_; (with_reducible refine (seal_Sign.calls k a0 ji8 (Int.tmod (wrap64 (a2)) (ji10)) a3 t108 t109 t112 t115 _ ?side1 A15.out).mono ?_); (case side1 => exact tabs_below HT.out (by first | exact upB HB.out | exact HB.out)); rintro e w22 ⟨v110, v113, rfl, ho0, ho1, hb⟩; refine ⟨_, rfl, ?_⟩; have n0_ := Aside0.mk (Kd.R_mono (Kd.R_told (Kd.R_told (Kd.R_old (by exact upR HO104.out) hb) (Kd.R_base ho0)) (Kd.R_base ho1)) (fun _ h_ => h_.1)); have n1_ := Aside0.mk (Kd.R_lower (Kd.R_new' ho0 (Kd.R_lt (by exact upR HO104.out))) (below_size (by first | exact upB HB.out | exact HB.out))); have n2_ := Aside0.mk (Kd.R_lower (Kd.R_new' ho1 (Kd.R_lt (by exact upR HO104.out))) (below_size (by first | exact upB HB.out | exact HB.out))); have n3_ := Aside0.mk (below_step (by first | exact upB HB.out | exact HB.out) hb); clear HO104; clear HB; have HO104 := n0_; have HO111 := n1_; have HO114 := n2_; have HB := n3_; clear n0_ n1_ n2_ n3_; (try clear hb); (try clear hb2); (try clear hk); (try clear hi); (try clear ho0); (try clear ho1)) | ((with_reducible refine gate_dst (N := 18) rfl ?_); (try (refine gate_guard (by rfl) ?_; dsimp only)); refine box_event ?hg (N := 18) ?hd (cs := #[.int .i64 0, .slice none 0 0, .slice none 0 0]) (t := 29) ?hr ?_; (case hd => rfl); (case hg => rfl); (case hr => first | (go_simp; done) | (go_simp; rfl)); intro gb116 hg w23 hbox hb; have n0_ := Aside0.mk (Kd.R_below (by exact upR HO104.out) hb); have n1_ := Aside0.mk (Kd.R_below (by exact upR HO111.out) hb); have n2_ := Aside0.mk (Kd.R_below (by exact upR HO114.out) hb); have n3_ := Aside0.mk (below_step (by first | exact upB HB.out | exact HB.out) hb); have n4_ := Aside0.mk (hbox); have n5_ := Aside0.mk ((by rw [hg]; exact (below_size (by first | exact upB HB.out | exact HB.out)) : w.heap.size ≤ gb116)); have n6_ := Aside0.mk ((by rw [hg]; exact (below_size (by first | exact upB HB.out | exact HB.out)) : w.heap.size ≤ gb116)); clear HO104; clear HO111; clear HO114; clear HB; have HO104 := n0_; have HO111 := n1_; have HO114 := n2_; have HB := n3_; have BK116 := n4_; have GW116 := n5_; have GE116 := n6_; clear n0_ n1_ n2_ n3_ n4_ n5_ n6_; clear hb hbox hg; have hcz24_0 : w23.cell? ⟨gb116, 0, none⟩ = some (.int .i64 0) := (blk_cell BK116.out 0).trans rfl; have hcz24_1 : w23.cell? ⟨gb116, 1, none⟩ = some (.slice none 0 0) := (blk_cell BK116.out 1).trans rfl; have hcz24_2 : w23.cell? ⟨gb116, 2, none⟩ = some (.slice none 0 0) := (blk_cell BK116.out 2).trans rfl; have hfz24_0 := blk_frozen BK116.out 0; have hfz24_1 := blk_frozen BK116.out 1; have hfz24_2 := blk_frozen BK116.out 2; obtain ⟨Ao25, co25, eo25⟩ := Kd.R_slice HO111.out; subst eo25; obtain ⟨Ao26, co26, eo26⟩ := Kd.R_slice HO114.out; subst eo26))
    (try simp only [Act.put, List.setIfInBounds_toArray, List.set_cons_zero, List.set_cons_succ])
    go_cut [70] (fun v70 wc => ∃ (kq : Nat) (x70_15 : Bool), v70 = .bool x70_15 ∧ Aside0 (pandectlaw03_SealChanges.j0 kq a0 a3 a4 a5 t101 ji8 t106 x70_15 t108 t109 t112 = some r) ∧ Aside0 (kq ≤ k) ∧ Aside0 (Kd.R Kd.string 9 wc w.heap.size (fun k_ => some k_ ≠ ((.slice Ao26 t112.length co26) : Value).ownBlock) (.slice Ao25 t109.length co25) t109) ∧ Aside0 (Kd.R Kd.string 9 wc w.heap.size (fun k_ => some k_ ≠ ((.slice Ao25 t109.length co25) : Value).ownBlock) (.slice Ao26 t112.length co26) t112) ∧ Aside0 (wc.heap[gb116]? = some (.cells #[.int .i64 t108, (.slice Ao25 t109.length co25), (.slice Ao26 t112.length co26)] 29 (0, 0))) ∧ Aside0 (Below w.heap.size w wc))
    case first =>
     have H := HC16.out
     clear HC16
     by_cases c27 : t107 = 0
     ·rw [if_pos c27] at H
      have c27b0 : (t107 == 0) = true := beq_iff_eq.mpr c27
      have c27b1 : (t107 != 0) = false := bne_eq_false_iff_eq.mpr c27
      clear c27
      (first | rw [c27b0] | (simp only [i64_w, i32_w]; rw [c27b0]) | skip)
      by_cases c28 : t115 = 0
      ·rw [if_pos c28] at H
       have c28b0 : (t115 == 0) = true := beq_iff_eq.mpr c28
       have c28b1 : (t115 != 0) = false := bne_eq_false_iff_eq.mpr c28
       clear c28
       by_cases c29 : (t109.length : Int) = 18
       ·rw [if_pos c29] at H
        have c29b0 : ((t109.length : Int) == 18) = true := beq_iff_eq.mpr c29
        have c29b1 : ((t109.length : Int) != 18) = false := bne_eq_false_iff_eq.mpr c29
        clear c29
        have H' := Aside0.mk H
        clear H
        have hcz30_0 : w23.cell? ⟨gb116, 0, none⟩ = some (.int .i64 0) := (blk_cell BK116.out 0).trans rfl
        have hcz30_1 : w23.cell? ⟨gb116, 1, none⟩ = some (.slice none 0 0) := (blk_cell BK116.out 1).trans rfl
        have hcz30_2 : w23.cell? ⟨gb116, 2, none⟩ = some (.slice none 0 0) := (blk_cell BK116.out 2).trans rfl
        have hfz30_0 := blk_frozen BK116.out 0
        have hfz30_1 := blk_frozen BK116.out 1
        have hfz30_2 := blk_frozen BK116.out 2
        go_wp2
        go_meet
        case rel => exact ⟨_, (((t112.length : Int) != (ji8))), (by first | rfl | (simp; done) | (simp only [← hji8] <;> (first | rfl | simp)) | (simp [*]; done)), H', ⟨by first | omega | exact Nat.le_refl _⟩, ⟨by (with_reducible repeat (first | apply Kd.R_alloc | apply Kd.R_drewN | apply Kd.R_drew)); exact Kd.R_mono (Kd.R_far (p := ⟨gb116, 2, none⟩) (Kd.R_far (p := ⟨gb116, 1, none⟩) (Kd.R_far (p := ⟨gb116, 0, none⟩) (Kd.R_types HO111.out BK116.out (by decide)) (fun _ hk => hk.2) (.int .i64 t108)) (fun _ hk => hk.2) (.slice Ao25 t109.length co25)) (fun _ hk => hk.2) (.slice Ao26 t112.length co26)) (fun _ hk => hk.1.1)⟩, ⟨by (with_reducible repeat (first | apply Kd.R_alloc | apply Kd.R_drewN | apply Kd.R_drew)); exact Kd.R_mono (Kd.R_far (p := ⟨gb116, 2, none⟩) (Kd.R_far (p := ⟨gb116, 1, none⟩) (Kd.R_far (p := ⟨gb116, 0, none⟩) (Kd.R_types HO114.out BK116.out (by decide)) (fun _ hk => hk.2) (.int .i64 t108)) (fun _ hk => hk.2) (.slice Ao25 t109.length co25)) (fun _ hk => hk.2) (.slice Ao26 t112.length co26)) (fun _ hk => hk.1.1)⟩, ⟨by (with_reducible repeat (first | refine blk_drewN ?_ _ | refine blk_drew ?_ | refine blk_alloc ?_ _)); refine blk_put (cs := #[.int .i64 t108, .slice Ao25 t109.length co25, .slice none 0 0]) ?_ 2 _ rfl; (with_reducible repeat (first | refine blk_drewN ?_ _ | refine blk_drew ?_ | refine blk_alloc ?_ _)); refine blk_put (cs := #[.int .i64 t108, .slice none 0 0, .slice none 0 0]) ?_ 1 _ rfl; (with_reducible repeat (first | refine blk_drewN ?_ _ | refine blk_drew ?_ | refine blk_alloc ?_ _)); refine blk_put (cs := #[.int .i64 0, .slice none 0 0, .slice none 0 0]) ?_ 0 _ rfl; (with_reducible repeat (first | refine blk_drewN ?_ _ | refine blk_drew ?_ | refine blk_alloc ?_ _)); exact BK116.out⟩, ⟨by repeat (first | (with_reducible first | exact HB.out | apply below_alloc | apply pw_below_drewN | apply below_drew1 | refine below_set ?_ GE116.out) | exact HB.out)⟩⟩
       ·rw [if_neg c29] at H
        have c29b0 : ((t109.length : Int) == 18) = false := beq_eq_false_iff_ne.mpr c29
        have c29b1 : ((t109.length : Int) != 18) = true := bne_iff_ne.mpr c29
        have H' := Aside0.mk H
        clear H
        have hcz31_0 : w23.cell? ⟨gb116, 0, none⟩ = some (.int .i64 0) := (blk_cell BK116.out 0).trans rfl
        have hcz31_1 : w23.cell? ⟨gb116, 1, none⟩ = some (.slice none 0 0) := (blk_cell BK116.out 1).trans rfl
        have hcz31_2 : w23.cell? ⟨gb116, 2, none⟩ = some (.slice none 0 0) := (blk_cell BK116.out 2).trans rfl
        have hfz31_0 := blk_frozen BK116.out 0
        have hfz31_1 := blk_frozen BK116.out 1
        have hfz31_2 := blk_frozen BK116.out 2
        go_wp2
        go_meet
        case rel => exact ⟨_, (true), (by first | rfl | (simp; done) | (simp [*]; done)), H', ⟨by first | omega | exact Nat.le_refl _⟩, ⟨by (with_reducible repeat (first | apply Kd.R_alloc | apply Kd.R_drewN | apply Kd.R_drew)); exact Kd.R_mono (Kd.R_far (p := ⟨gb116, 2, none⟩) (Kd.R_far (p := ⟨gb116, 1, none⟩) (Kd.R_far (p := ⟨gb116, 0, none⟩) (Kd.R_types HO111.out BK116.out (by decide)) (fun _ hk => hk.2) (.int .i64 t108)) (fun _ hk => hk.2) (.slice Ao25 t109.length co25)) (fun _ hk => hk.2) (.slice Ao26 t112.length co26)) (fun _ hk => hk.1.1)⟩, ⟨by (with_reducible repeat (first | apply Kd.R_alloc | apply Kd.R_drewN | apply Kd.R_drew)); exact Kd.R_mono (Kd.R_far (p := ⟨gb116, 2, none⟩) (Kd.R_far (p := ⟨gb116, 1, none⟩) (Kd.R_far (p := ⟨gb116, 0, none⟩) (Kd.R_types HO114.out BK116.out (by decide)) (fun _ hk => hk.2) (.int .i64 t108)) (fun _ hk => hk.2) (.slice Ao25 t109.length co25)) (fun _ hk => hk.2) (.slice Ao26 t112.length co26)) (fun _ hk => hk.1.1)⟩, ⟨by (with_reducible repeat (first | refine blk_drewN ?_ _ | refine blk_drew ?_ | refine blk_alloc ?_ _)); refine blk_put (cs := #[.int .i64 t108, .slice Ao25 t109.length co25, .slice none 0 0]) ?_ 2 _ rfl; (with_reducible repeat (first | refine blk_drewN ?_ _ | refine blk_drew ?_ | refine blk_alloc ?_ _)); refine blk_put (cs := #[.int .i64 t108, .slice none 0 0, .slice none 0 0]) ?_ 1 _ rfl; (with_reducible repeat (first | refine blk_drewN ?_ _ | refine blk_drew ?_ | refine blk_alloc ?_ _)); refine blk_put (cs := #[.int .i64 0, .slice none 0 0, .slice none 0 0]) ?_ 0 _ rfl; (with_reducible repeat (first | refine blk_drewN ?_ _ | refine blk_drew ?_ | refine blk_alloc ?_ _)); exact BK116.out⟩, ⟨by repeat (first | (with_reducible first | exact HB.out | apply below_alloc | apply pw_below_drewN | apply below_drew1 | refine below_set ?_ GE116.out) | exact HB.out)⟩⟩
      ·rw [if_neg c28] at H
       have c28b0 : (t115 == 0) = false := beq_eq_false_iff_ne.mpr c28
       have c28b1 : (t115 != 0) = true := bne_iff_ne.mpr c28
       have H' := Aside0.mk H
       clear H
       go_wp2
       go_meet
       case rel => exact ⟨_, (true), (by first | rfl | (simp; done) | (simp [*]; done)), H', ⟨by first | omega | exact Nat.le_refl _⟩, ⟨by (with_reducible repeat (first | apply Kd.R_alloc | apply Kd.R_drewN | apply Kd.R_drew)); exact Kd.R_mono (Kd.R_far (p := ⟨gb116, 2, none⟩) (Kd.R_far (p := ⟨gb116, 1, none⟩) (Kd.R_far (p := ⟨gb116, 0, none⟩) (Kd.R_types HO111.out BK116.out (by decide)) (fun _ hk => hk.2) (.int .i64 t108)) (fun _ hk => hk.2) (.slice Ao25 t109.length co25)) (fun _ hk => hk.2) (.slice Ao26 t112.length co26)) (fun _ hk => hk.1.1)⟩, ⟨by (with_reducible repeat (first | apply Kd.R_alloc | apply Kd.R_drewN | apply Kd.R_drew)); exact Kd.R_mono (Kd.R_far (p := ⟨gb116, 2, none⟩) (Kd.R_far (p := ⟨gb116, 1, none⟩) (Kd.R_far (p := ⟨gb116, 0, none⟩) (Kd.R_types HO114.out BK116.out (by decide)) (fun _ hk => hk.2) (.int .i64 t108)) (fun _ hk => hk.2) (.slice Ao25 t109.length co25)) (fun _ hk => hk.2) (.slice Ao26 t112.length co26)) (fun _ hk => hk.1.1)⟩, ⟨by (with_reducible repeat (first | refine blk_drewN ?_ _ | refine blk_drew ?_ | refine blk_alloc ?_ _)); refine blk_put (cs := #[.int .i64 t108, .slice Ao25 t109.length co25, .slice none 0 0]) ?_ 2 _ rfl; (with_reducible repeat (first | refine blk_drewN ?_ _ | refine blk_drew ?_ | refine blk_alloc ?_ _)); refine blk_put (cs := #[.int .i64 t108, .slice none 0 0, .slice none 0 0]) ?_ 1 _ rfl; (with_reducible repeat (first | refine blk_drewN ?_ _ | refine blk_drew ?_ | refine blk_alloc ?_ _)); refine blk_put (cs := #[.int .i64 0, .slice none 0 0, .slice none 0 0]) ?_ 0 _ rfl; (with_reducible repeat (first | refine blk_drewN ?_ _ | refine blk_drew ?_ | refine blk_alloc ?_ _)); exact BK116.out⟩, ⟨by repeat (first | (with_reducible first | exact HB.out | apply below_alloc | apply pw_below_drewN | apply below_drew1 | refine below_set ?_ GE116.out) | exact HB.out)⟩⟩
     ·rw [if_neg c27] at H
      have c27b0 : (t107 == 0) = false := beq_eq_false_iff_ne.mpr c27
      have c27b1 : (t107 != 0) = true := bne_iff_ne.mpr c27
      (first | rw [c27b0] | (simp only [i64_w, i32_w]; rw [c27b0]) | skip)
      have H' := Aside0.mk H
      clear H
      go_wp2
      go_meet
      case rel => exact ⟨_, (true), (by first | rfl | (simp; done) | (simp [*]; done)), H', ⟨by first | omega | exact Nat.le_refl _⟩, ⟨by (with_reducible repeat (first | apply Kd.R_alloc | apply Kd.R_drewN | apply Kd.R_drew)); exact Kd.R_mono (Kd.R_far (p := ⟨gb116, 2, none⟩) (Kd.R_far (p := ⟨gb116, 1, none⟩) (Kd.R_far (p := ⟨gb116, 0, none⟩) (Kd.R_types HO111.out BK116.out (by decide)) (fun _ hk => hk.2) (.int .i64 t108)) (fun _ hk => hk.2) (.slice Ao25 t109.length co25)) (fun _ hk => hk.2) (.slice Ao26 t112.length co26)) (fun _ hk => hk.1.1)⟩, ⟨by (with_reducible repeat (first | apply Kd.R_alloc | apply Kd.R_drewN | apply Kd.R_drew)); exact Kd.R_mono (Kd.R_far (p := ⟨gb116, 2, none⟩) (Kd.R_far (p := ⟨gb116, 1, none⟩) (Kd.R_far (p := ⟨gb116, 0, none⟩) (Kd.R_types HO114.out BK116.out (by decide)) (fun _ hk => hk.2) (.int .i64 t108)) (fun _ hk => hk.2) (.slice Ao25 t109.length co25)) (fun _ hk => hk.2) (.slice Ao26 t112.length co26)) (fun _ hk => hk.1.1)⟩, ⟨by (with_reducible repeat (first | refine blk_drewN ?_ _ | refine blk_drew ?_ | refine blk_alloc ?_ _)); refine blk_put (cs := #[.int .i64 t108, .slice Ao25 t109.length co25, .slice none 0 0]) ?_ 2 _ rfl; (with_reducible repeat (first | refine blk_drewN ?_ _ | refine blk_drew ?_ | refine blk_alloc ?_ _)); refine blk_put (cs := #[.int .i64 t108, .slice none 0 0, .slice none 0 0]) ?_ 1 _ rfl; (with_reducible repeat (first | refine blk_drewN ?_ _ | refine blk_drew ?_ | refine blk_alloc ?_ _)); refine blk_put (cs := #[.int .i64 0, .slice none 0 0, .slice none 0 0]) ?_ 0 _ rfl; (with_reducible repeat (first | refine blk_drewN ?_ _ | refine blk_drew ?_ | refine blk_alloc ?_ _)); exact BK116.out⟩, ⟨by repeat (first | (with_reducible first | exact HB.out | apply below_alloc | apply pw_below_drewN | apply below_drew1 | refine below_set ?_ GE116.out) | exact HB.out)⟩⟩
    case rest =>
     clear HC16
     try clear c1
     try clear c2
     try clear p2
     try clear c6
     try clear p6
     try clear c9
     try clear c9b0
     try clear c9b1
     try clear c10
     try clear c12
     try clear c13
     try clear c27
     try clear c27b0
     try clear c27b1
     try clear c28
     try clear c28b0
     try clear c28b1
     try clear c29
     try clear c29b0
     try clear c29b1
     try clear hcz24_0
     try clear hcz24_1
     try clear hcz24_2
     try clear hcz30_0
     try clear hcz30_1
     try clear hcz30_2
     try clear hcz31_0
     try clear hcz31_1
     try clear hcz31_2
     try clear hfz24_0
     try clear hfz24_1
     try clear hfz24_2
     try clear hfz30_0
     try clear hfz30_1
     try clear hfz30_2
     try clear hfz31_0
     try clear hfz31_1
     try clear hfz31_2
     obtain ⟨kq, x70_15, rfl, HA, HJ15, HO_117001, HO_117002, BK116, HB⟩ := hcut
     cases kq with
     | zero => exact absurd HA.out (by simp [pandectlaw03_SealChanges.j0])
     | succ kj15 =>
      have H := HA.out
      clear HA
      simp only [pandectlaw03_SealChanges.j0] at H
      by_cases c32 : x70_15 = true
      ·subst c32
       have H1 : (some false) = some r := by rw [if_pos rfl] at H; exact H
       clear H
       have H := H1
       clear H1
       obtain rfl := Option.some.inj H
       go_wp2
       go_ret
       exact ⟨by first | rfl | (simp [errW_none, errW_some] <;> rfl) | (simp only [← hji8, ← hji10]; first | rfl | (simp [errW_none, errW_some] <;> rfl)) | (simp [*, errW_none, errW_some] <;> rfl), by exact upB HB.out⟩
      ·replace c32 := Bool.eq_false_iff.mpr c32
       subst c32
       have H1 : ((some (([] : List ByteArray) : List ByteArray)).bind fun y117 => (if y117.length + t109.length < 8796093022208 then ((some (y117 ++ t109 : List ByteArray)).bind fun y120 => ((some (([] : List ByteArray) : List ByteArray)).bind fun y123 => (if y123.length + t112.length < 8796093022208 then ((some (y123 ++ t112 : List ByteArray)).bind fun y126 => (if (wrap64 (19 + ji8)) = 0 then (none) else (if (Int.tmod (wrap64 (a4)) (wrap64 (19 + ji8))) < 18 then (if 0 ≤ (Int.tmod (wrap64 (a4)) (wrap64 (19 + ji8))) then (if (Int.tmod (wrap64 (a4)) (wrap64 (19 + ji8))) < (y120.length : Int) then (pandectlaw03_SealChanges.j1 kj15 a0 a3 t101 ji8 t106 t108 t109 t112 t108 (y120.set ((Int.tmod (wrap64 (a4)) (wrap64 (19 + ji8))) : Int).toNat a5) y126) else (none)) else (none)) else (if (Int.tmod (wrap64 (a4)) (wrap64 (19 + ji8))) < (wrap64 (18 + ji8)) then (if 0 ≤ (wrap64 ((Int.tmod (wrap64 (a4)) (wrap64 (19 + ji8))) - 18)) then (if (wrap64 ((Int.tmod (wrap64 (a4)) (wrap64 (19 + ji8))) - 18)) < (y126.length : Int) then (pandectlaw03_SealChanges.j1 kj15 a0 a3 t101 ji8 t106 t108 t109 t112 t108 y120 (y126.set ((wrap64 ((Int.tmod (wrap64 (a4)) (wrap64 (19 + ji8))) - 18)) : Int).toNat a5)) else (none)) else (none)) else (if 0 ≤ ji8 then (if (shl .i64 1 ji8) = 0 then (none) else (pandectlaw03_SealChanges.j1 kj15 a0 a3 t101 ji8 t106 t108 t109 t112 (Int.tmod (wrap64 (t108 + 1)) (shl .i64 1 ji8)) y120 y126)) else (none)))))) else (none)))) else (none))) = some r := by rw [if_neg (show ¬ (false = true) by decide)] at H; exact H
       clear H
       have H := H1
       clear H1
       obtain ⟨y117, hy117⟩ : ∃ y_ : List ByteArray, y_ = (([] : List ByteArray)) := ⟨_, rfl⟩
       replace H : (if y117.length + t109.length < 8796093022208 then ((some (y117 ++ t109 : List ByteArray)).bind fun y120 => ((some (([] : List ByteArray) : List ByteArray)).bind fun y123 => (if y123.length + t112.length < 8796093022208 then ((some (y123 ++ t112 : List ByteArray)).bind fun y126 => (if (wrap64 (19 + ji8)) = 0 then (none) else (if (Int.tmod (wrap64 (a4)) (wrap64 (19 + ji8))) < 18 then (if 0 ≤ (Int.tmod (wrap64 (a4)) (wrap64 (19 + ji8))) then (if (Int.tmod (wrap64 (a4)) (wrap64 (19 + ji8))) < (y120.length : Int) then (pandectlaw03_SealChanges.j1 kj15 a0 a3 t101 ji8 t106 t108 t109 t112 t108 (y120.set ((Int.tmod (wrap64 (a4)) (wrap64 (19 + ji8))) : Int).toNat a5) y126) else (none)) else (none)) else (if (Int.tmod (wrap64 (a4)) (wrap64 (19 + ji8))) < (wrap64 (18 + ji8)) then (if 0 ≤ (wrap64 ((Int.tmod (wrap64 (a4)) (wrap64 (19 + ji8))) - 18)) then (if (wrap64 ((Int.tmod (wrap64 (a4)) (wrap64 (19 + ji8))) - 18)) < (y126.length : Int) then (pandectlaw03_SealChanges.j1 kj15 a0 a3 t101 ji8 t106 t108 t109 t112 t108 y120 (y126.set ((wrap64 ((Int.tmod (wrap64 (a4)) (wrap64 (19 + ji8))) - 18)) : Int).toNat a5)) else (none)) else (none)) else (if 0 ≤ ji8 then (if (shl .i64 1 ji8) = 0 then (none) else (pandectlaw03_SealChanges.j1 kj15 a0 a3 t101 ji8 t106 t108 t109 t112 (Int.tmod (wrap64 (t108 + 1)) (shl .i64 1 ji8)) y120 y126)) else (none)))))) else (none)))) else (none)) = some r := by first | (rw [hy117]; with_reducible exact H) | (have H2_ := (Option.bind_some _ _).symm.trans H; rw [hy117]; with_reducible exact H2_) | (have H2_ := (Option.bind_some _ _).symm.trans H; with_reducible exact H2_) | with_reducible exact H | (rw [hy117]; exact H) | exact H
       have Ny117 := Aside0.mk hy117
       clear hy117
       by_cases c33 : y117.length + t109.length < 8796093022208
       ·rw [if_pos c33] at H
        have LMc33 := Aside0.mk c33
        clear c33
        obtain ⟨y120, hy120⟩ : ∃ y_ : List ByteArray, y_ = (y117 ++ t109) := ⟨_, rfl⟩
        replace H : ((some (([] : List ByteArray) : List ByteArray)).bind fun y123 => (if y123.length + t112.length < 8796093022208 then ((some (y123 ++ t112 : List ByteArray)).bind fun y126 => (if (wrap64 (19 + ji8)) = 0 then (none) else (if (Int.tmod (wrap64 (a4)) (wrap64 (19 + ji8))) < 18 then (if 0 ≤ (Int.tmod (wrap64 (a4)) (wrap64 (19 + ji8))) then (if (Int.tmod (wrap64 (a4)) (wrap64 (19 + ji8))) < (y120.length : Int) then (pandectlaw03_SealChanges.j1 kj15 a0 a3 t101 ji8 t106 t108 t109 t112 t108 (y120.set ((Int.tmod (wrap64 (a4)) (wrap64 (19 + ji8))) : Int).toNat a5) y126) else (none)) else (none)) else (if (Int.tmod (wrap64 (a4)) (wrap64 (19 + ji8))) < (wrap64 (18 + ji8)) then (if 0 ≤ (wrap64 ((Int.tmod (wrap64 (a4)) (wrap64 (19 + ji8))) - 18)) then (if (wrap64 ((Int.tmod (wrap64 (a4)) (wrap64 (19 + ji8))) - 18)) < (y126.length : Int) then (pandectlaw03_SealChanges.j1 kj15 a0 a3 t101 ji8 t106 t108 t109 t112 t108 y120 (y126.set ((wrap64 ((Int.tmod (wrap64 (a4)) (wrap64 (19 + ji8))) - 18)) : Int).toNat a5)) else (none)) else (none)) else (if 0 ≤ ji8 then (if (shl .i64 1 ji8) = 0 then (none) else (pandectlaw03_SealChanges.j1 kj15 a0 a3 t101 ji8 t106 t108 t109 t112 (Int.tmod (wrap64 (t108 + 1)) (shl .i64 1 ji8)) y120 y126)) else (none)))))) else (none))) = some r := by first | (rw [hy120]; with_reducible exact H) | (have H2_ := (Option.bind_some _ _).symm.trans H; rw [hy120]; with_reducible exact H2_) | (have H2_ := (Option.bind_some _ _).symm.trans H; with_reducible exact H2_) | with_reducible exact H | (rw [hy120]; exact H) | exact H
        have Ny120 := Aside0.mk hy120
        clear hy120
        obtain ⟨y123, hy123⟩ : ∃ y_ : List ByteArray, y_ = (([] : List ByteArray)) := ⟨_, rfl⟩
        replace H : (if y123.length + t112.length < 8796093022208 then ((some (y123 ++ t112 : List ByteArray)).bind fun y126 => (if (wrap64 (19 + ji8)) = 0 then (none) else (if (Int.tmod (wrap64 (a4)) (wrap64 (19 + ji8))) < 18 then (if 0 ≤ (Int.tmod (wrap64 (a4)) (wrap64 (19 + ji8))) then (if (Int.tmod (wrap64 (a4)) (wrap64 (19 + ji8))) < (y120.length : Int) then (pandectlaw03_SealChanges.j1 kj15 a0 a3 t101 ji8 t106 t108 t109 t112 t108 (y120.set ((Int.tmod (wrap64 (a4)) (wrap64 (19 + ji8))) : Int).toNat a5) y126) else (none)) else (none)) else (if (Int.tmod (wrap64 (a4)) (wrap64 (19 + ji8))) < (wrap64 (18 + ji8)) then (if 0 ≤ (wrap64 ((Int.tmod (wrap64 (a4)) (wrap64 (19 + ji8))) - 18)) then (if (wrap64 ((Int.tmod (wrap64 (a4)) (wrap64 (19 + ji8))) - 18)) < (y126.length : Int) then (pandectlaw03_SealChanges.j1 kj15 a0 a3 t101 ji8 t106 t108 t109 t112 t108 y120 (y126.set ((wrap64 ((Int.tmod (wrap64 (a4)) (wrap64 (19 + ji8))) - 18)) : Int).toNat a5)) else (none)) else (none)) else (if 0 ≤ ji8 then (if (shl .i64 1 ji8) = 0 then (none) else (pandectlaw03_SealChanges.j1 kj15 a0 a3 t101 ji8 t106 t108 t109 t112 (Int.tmod (wrap64 (t108 + 1)) (shl .i64 1 ji8)) y120 y126)) else (none)))))) else (none)) = some r := by first | (rw [hy123]; with_reducible exact H) | (have H2_ := (Option.bind_some _ _).symm.trans H; rw [hy123]; with_reducible exact H2_) | (have H2_ := (Option.bind_some _ _).symm.trans H; with_reducible exact H2_) | with_reducible exact H | (rw [hy123]; exact H) | exact H
        have Ny123 := Aside0.mk hy123
        clear hy123
        by_cases c34 : y123.length + t112.length < 8796093022208
        ·rw [if_pos c34] at H
         have LMc34 := Aside0.mk c34
         clear c34
         obtain ⟨y126, hy126⟩ : ∃ y_ : List ByteArray, y_ = (y123 ++ t112) := ⟨_, rfl⟩
         replace H : (if (wrap64 (19 + ji8)) = 0 then (none) else (if (Int.tmod (wrap64 (a4)) (wrap64 (19 + ji8))) < 18 then (if 0 ≤ (Int.tmod (wrap64 (a4)) (wrap64 (19 + ji8))) then (if (Int.tmod (wrap64 (a4)) (wrap64 (19 + ji8))) < (y120.length : Int) then (pandectlaw03_SealChanges.j1 kj15 a0 a3 t101 ji8 t106 t108 t109 t112 t108 (y120.set ((Int.tmod (wrap64 (a4)) (wrap64 (19 + ji8))) : Int).toNat a5) y126) else (none)) else (none)) else (if (Int.tmod (wrap64 (a4)) (wrap64 (19 + ji8))) < (wrap64 (18 + ji8)) then (if 0 ≤ (wrap64 ((Int.tmod (wrap64 (a4)) (wrap64 (19 + ji8))) - 18)) then (if (wrap64 ((Int.tmod (wrap64 (a4)) (wrap64 (19 + ji8))) - 18)) < (y126.length : Int) then (pandectlaw03_SealChanges.j1 kj15 a0 a3 t101 ji8 t106 t108 t109 t112 t108 y120 (y126.set ((wrap64 ((Int.tmod (wrap64 (a4)) (wrap64 (19 + ji8))) - 18)) : Int).toNat a5)) else (none)) else (none)) else (if 0 ≤ ji8 then (if (shl .i64 1 ji8) = 0 then (none) else (pandectlaw03_SealChanges.j1 kj15 a0 a3 t101 ji8 t106 t108 t109 t112 (Int.tmod (wrap64 (t108 + 1)) (shl .i64 1 ji8)) y120 y126)) else (none))))) = some r := by first | (rw [hy126]; with_reducible exact H) | (have H2_ := (Option.bind_some _ _).symm.trans H; rw [hy126]; with_reducible exact H2_) | (have H2_ := (Option.bind_some _ _).symm.trans H; with_reducible exact H2_) | with_reducible exact H | (rw [hy126]; exact H) | exact H
         have Ny126 := Aside0.mk hy126
         clear hy126
         by_cases c35 : (wrap64 (19 + ji8)) = 0
         ·rw [if_pos c35] at H
          exact absurd H (by simp)
         ·rw [if_neg c35] at H
          have c35b0 : ((wrap64 (19 + ji8)) == 0) = false := beq_eq_false_iff_ne.mpr c35
          have c35b1 : ((wrap64 (19 + ji8)) != 0) = true := bne_iff_ne.mpr c35
          have HC36 := Aside0.mk H
          clear H
          try go_wp2
          have n0_ := Aside0.mk (Kd.R_drew HO_117001.out)
          have n1_ := Aside0.mk (Kd.R_drew HO_117002.out)
          have n2_ := Aside0.mk (blk_drew BK116.out)
          have n3_ := Aside0.mk (below_drew1 HB.out)
          clear HO_117001
          clear HO_117002
          clear BK116
          clear HB
          have HO_117001 := n0_
          have HO_117002 := n1_
          have BK116 := n2_
          have HB := n3_
          clear n0_ n1_ n2_ n3_
          refine start_ (n := 13) (S := fun w' => w'.cell? ⟨gb116, 0, none⟩ = some (.int .i64 t108) ∧ w'.cell? ⟨gb116, 1, none⟩ = some (.slice Ao25 t109.length co25) ∧ w'.cell? ⟨gb116, 2, none⟩ = some (.slice Ao26 t112.length co26)) (ds := []) #[false, false, false, false, false, false, false, false, false, false, false, false, false] (by kernel_rfl) rfl rfl ⟨(blk_cell BK116.out 0).trans rfl, (blk_cell BK116.out 1).trans rfl, (blk_cell BK116.out 2).trans rfl⟩ (fun hHeld => ?_); refine with_tabW pandectlaw03_SealChanges.tab10 pandectlaw03_SealChanges.bits10 (fun HT_ HW_ => ?_)
          generalize wc.drew = w37 at HO_117001 HO_117002 BK116 HB hHeld ⊢
          refine pure_ (i := 0) (N := some 71) (v := ?_) (a' := ?_) #[true, false, false, false, false, false, false, false, false, false, false, false, false] rfl rfl (any_of HT_.out (by kernel_rfl)) (fun _ _ _ h => h) (Or.inl ⟨by rfl, ?_⟩) ?_ ?_
          rotate_left
          ·intro w'
           go_simp
           with_reducible rfl
          rotate_left
          ·simp only [Act.put, List.setIfInBounds_toArray, List.set_cons_zero, List.set_cons_succ, i64_w, i32_w]
           rfl
          refine pure_ (i := 3) (N := some 74) (v := ?_) (a' := ?_) #[true, false, false, true, false, false, false, false, false, false, false, false, false] rfl rfl (any_of HT_.out (by kernel_rfl)) (fun _ _ _ h => h) (Or.inl ⟨by rfl, ?_⟩) ?_ ?_
          rotate_left
          ·intro w'
           go_simp
           with_reducible rfl
          rotate_left
          ·simp only [Act.put, List.setIfInBounds_toArray, List.set_cons_zero, List.set_cons_succ, i64_w, i32_w]
           rfl
          refine pure_ (i := 7) (N := some 78) (v := ?_) (a' := ?_) #[true, false, false, true, false, false, false, true, false, false, false, false, false] rfl rfl (any_of HT_.out (by kernel_rfl)) (fun _ _ _ h => h) (Or.inl ⟨by rfl, ?_⟩) ?_ ?_
          rotate_left
          ·intro w'
           go_simp
           with_reducible rfl
          rotate_left
          ·simp only [Act.put, List.setIfInBounds_toArray, List.set_cons_zero, List.set_cons_succ, i64_w, i32_w]
           rfl
          refine take_ (i := 1) (N := some 72) (v := ?_) (a' := ?_) #[true, true, false, true, false, false, false, true, false, false, false, false, false] rfl rfl (take_ofW HT_.out HW_.out (by kernel_rfl)) (fun _ _ _ h => h) (Or.inl ⟨by rfl, ?_⟩) hHeld ?_ ?_
          rotate_left
          ·rintro w' ⟨s0, s1, s2⟩
           go_simp
           with_reducible rfl
          rotate_left
          ·simp only [Act.put, List.setIfInBounds_toArray, List.set_cons_zero, List.set_cons_succ, i64_w, i32_w]
           rfl
          refine take_ (i := 4) (N := some 75) (v := ?_) (a' := ?_) #[true, true, false, true, true, false, false, true, false, false, false, false, false] rfl rfl (take_ofW HT_.out HW_.out (by kernel_rfl)) (fun _ _ _ h => h) (Or.inl ⟨by rfl, ?_⟩) hHeld ?_ ?_
          rotate_left
          ·rintro w' ⟨s0, s1, s2⟩
           go_simp
           with_reducible rfl
          rotate_left
          ·simp only [Act.put, List.setIfInBounds_toArray, List.set_cons_zero, List.set_cons_succ, i64_w, i32_w]
           rfl
          refine take_ (i := 8) (N := some 79) (v := ?_) (a' := ?_) #[true, true, false, true, true, false, false, true, true, false, false, false, false] rfl rfl (take_ofW HT_.out HW_.out (by kernel_rfl)) (fun _ _ _ h => h) (Or.inl ⟨by rfl, ?_⟩) hHeld ?_ ?_
          rotate_left
          ·rintro w' ⟨s0, s1, s2⟩
           go_simp
           with_reducible rfl
          rotate_left
          ·simp only [Act.put, List.setIfInBounds_toArray, List.set_cons_zero, List.set_cons_succ, i64_w, i32_w]
           rfl
          refine join_ (σ := Value × Value × Value × Value × Nat) 1 #[true, true, true, true, true, true, true, true, true, true, true, true, false] (fun s_ => [(73, s_.1), (76, s_.2.1), (77, s_.2.2.1), (80, s_.2.2.2.1), (20, .pointer (some ⟨s_.2.2.2.2, 0, none⟩)), (81, .agg #[.int .i64 t108, s_.2.1, s_.2.2.2.1])]) (fun s_ w' => (w'.cell? ⟨gb116, 0, none⟩ = some (.int .i64 t108) ∧ w'.cell? ⟨gb116, 1, none⟩ = some (.slice Ao25 t109.length co25) ∧ w'.cell? ⟨gb116, 2, none⟩ = some (.slice Ao26 t112.length co26)) ∧ (Kd.R Kd.string 9 w' w.heap.size (fun k_ => some k_ ≠ (s_.2.2.2.1 : Value).ownBlock ∧ some k_ ≠ (.slice Ao25 t109.length co25 : Value).ownBlock ∧ some k_ ≠ (.slice Ao26 t112.length co26 : Value).ownBlock) s_.2.1 y120) ∧ (Kd.R Kd.string 9 w' w.heap.size (fun k_ => some k_ ≠ (s_.2.1 : Value).ownBlock ∧ some k_ ≠ (.slice Ao25 t109.length co25 : Value).ownBlock ∧ some k_ ≠ (.slice Ao26 t112.length co26 : Value).ownBlock) s_.2.2.2.1 y126) ∧ (Kd.R Kd.string 9 w' w.heap.size (fun k_ => some k_ ≠ (s_.2.1 : Value).ownBlock ∧ some k_ ≠ (s_.2.2.2.1 : Value).ownBlock ∧ some k_ ≠ (.slice Ao26 t112.length co26 : Value).ownBlock) (.slice Ao25 t109.length co25) t109) ∧ (Kd.R Kd.string 9 w' w.heap.size (fun k_ => some k_ ≠ (s_.2.1 : Value).ownBlock ∧ some k_ ≠ (s_.2.2.2.1 : Value).ownBlock ∧ some k_ ≠ (.slice Ao25 t109.length co25 : Value).ownBlock) (.slice Ao26 t112.length co26) t112) ∧ (w'.heap[gb116]? = some (.cells #[.int .i64 t108, .slice Ao25 t109.length co25, .slice Ao26 t112.length co26] 29 (0, 0))) ∧ (w'.heap[s_.2.2.2.2]? = some (.cells #[.int .i64 0, .slice none 0 0, .slice none 0 0] 29 (0, 0))) ∧ (w.heap.size ≤ s_.2.2.2.2) ∧ (w.heap.size ≤ s_.2.2.2.2) ∧ (gb116 ≠ s_.2.2.2.2) ∧ (s_.2.2.2.2 ≠ gb116) ∧ (Below w.heap.size w w')) ?_ ?_
          rotate_left
          ·intro hJ2_5_6_9_11
           refine join_ (σ := Value × Value × Value × Value) 2 #[true, true, true, true, true, true, true, true, true, true, true, false, false] (fun s_ => [(73, s_.1), (76, s_.2.1), (77, s_.2.2.1), (80, s_.2.2.2), (81, .agg #[.int .i64 t108, s_.2.1, s_.2.2.2])]) (fun s_ w' => (w'.cell? ⟨gb116, 0, none⟩ = some (.int .i64 t108) ∧ w'.cell? ⟨gb116, 1, none⟩ = some (.slice Ao25 t109.length co25) ∧ w'.cell? ⟨gb116, 2, none⟩ = some (.slice Ao26 t112.length co26)) ∧ (Kd.R Kd.string 9 w' w.heap.size (fun k_ => some k_ ≠ (s_.2.2.2 : Value).ownBlock ∧ some k_ ≠ (.slice Ao25 t109.length co25 : Value).ownBlock ∧ some k_ ≠ (.slice Ao26 t112.length co26 : Value).ownBlock) s_.2.1 y120) ∧ (Kd.R Kd.string 9 w' w.heap.size (fun k_ => some k_ ≠ (s_.2.1 : Value).ownBlock ∧ some k_ ≠ (.slice Ao25 t109.length co25 : Value).ownBlock ∧ some k_ ≠ (.slice Ao26 t112.length co26 : Value).ownBlock) s_.2.2.2 y126) ∧ (Kd.R Kd.string 9 w' w.heap.size (fun k_ => some k_ ≠ (s_.2.1 : Value).ownBlock ∧ some k_ ≠ (s_.2.2.2 : Value).ownBlock ∧ some k_ ≠ (.slice Ao26 t112.length co26 : Value).ownBlock) (.slice Ao25 t109.length co25) t109) ∧ (Kd.R Kd.string 9 w' w.heap.size (fun k_ => some k_ ≠ (s_.2.1 : Value).ownBlock ∧ some k_ ≠ (s_.2.2.2 : Value).ownBlock ∧ some k_ ≠ (.slice Ao25 t109.length co25 : Value).ownBlock) (.slice Ao26 t112.length co26) t112) ∧ (w'.heap[gb116]? = some (.cells #[.int .i64 t108, .slice Ao25 t109.length co25, .slice Ao26 t112.length co26] 29 (0, 0))) ∧ (Below w.heap.size w w')) ?_ ?_
           rotate_left
           ·intro hJ2_5_6_9
            refine join_ (σ := Value × Value × Value × Nat) 3 #[true, true, true, true, true, true, true, true, true, false, false, true, false] (fun s_ => [(73, s_.1), (76, s_.2.1), (77, s_.2.2.1), (20, .pointer (some ⟨s_.2.2.2, 0, none⟩))]) (fun s_ w' => (w'.cell? ⟨gb116, 0, none⟩ = some (.int .i64 t108) ∧ w'.cell? ⟨gb116, 1, none⟩ = some (.slice Ao25 t109.length co25) ∧ w'.cell? ⟨gb116, 2, none⟩ = some (.slice Ao26 t112.length co26)) ∧ (Kd.R Kd.string 9 w' w.heap.size (fun k_ => some k_ ≠ (s_.2.2.1 : Value).ownBlock ∧ some k_ ≠ (.slice Ao25 t109.length co25 : Value).ownBlock ∧ some k_ ≠ (.slice Ao26 t112.length co26 : Value).ownBlock) s_.2.1 y120) ∧ (Kd.R Kd.string 9 w' w.heap.size (fun k_ => some k_ ≠ (s_.2.1 : Value).ownBlock ∧ some k_ ≠ (.slice Ao25 t109.length co25 : Value).ownBlock ∧ some k_ ≠ (.slice Ao26 t112.length co26 : Value).ownBlock) s_.2.2.1 y123) ∧ (Kd.R Kd.string 9 w' w.heap.size (fun k_ => some k_ ≠ (s_.2.1 : Value).ownBlock ∧ some k_ ≠ (s_.2.2.1 : Value).ownBlock ∧ some k_ ≠ (.slice Ao26 t112.length co26 : Value).ownBlock) (.slice Ao25 t109.length co25) t109) ∧ (Kd.R Kd.string 9 w' w.heap.size (fun k_ => some k_ ≠ (s_.2.1 : Value).ownBlock ∧ some k_ ≠ (s_.2.2.1 : Value).ownBlock ∧ some k_ ≠ (.slice Ao25 t109.length co25 : Value).ownBlock) (.slice Ao26 t112.length co26) t112) ∧ (w'.heap[gb116]? = some (.cells #[.int .i64 t108, .slice Ao25 t109.length co25, .slice Ao26 t112.length co26] 29 (0, 0))) ∧ (w'.heap[s_.2.2.2]? = some (.cells #[.int .i64 0, .slice none 0 0, .slice none 0 0] 29 (0, 0))) ∧ (w.heap.size ≤ s_.2.2.2) ∧ (w.heap.size ≤ s_.2.2.2) ∧ (gb116 ≠ s_.2.2.2) ∧ (s_.2.2.2 ≠ gb116) ∧ (Below w.heap.size w w')) ?_ ?_
            rotate_left
            ·intro hJ2_5_6_11
             refine join_ (σ := Value × Value × Value) 4 #[true, true, true, true, true, true, true, true, true, false, false, false, false] (fun s_ => [(73, s_.1), (76, s_.2.1), (77, s_.2.2)]) (fun s_ w' => (w'.cell? ⟨gb116, 0, none⟩ = some (.int .i64 t108) ∧ w'.cell? ⟨gb116, 1, none⟩ = some (.slice Ao25 t109.length co25) ∧ w'.cell? ⟨gb116, 2, none⟩ = some (.slice Ao26 t112.length co26)) ∧ (Kd.R Kd.string 9 w' w.heap.size (fun k_ => some k_ ≠ (s_.2.2 : Value).ownBlock ∧ some k_ ≠ (.slice Ao25 t109.length co25 : Value).ownBlock ∧ some k_ ≠ (.slice Ao26 t112.length co26 : Value).ownBlock) s_.2.1 y120) ∧ (Kd.R Kd.string 9 w' w.heap.size (fun k_ => some k_ ≠ (s_.2.1 : Value).ownBlock ∧ some k_ ≠ (.slice Ao25 t109.length co25 : Value).ownBlock ∧ some k_ ≠ (.slice Ao26 t112.length co26 : Value).ownBlock) s_.2.2 y123) ∧ (Kd.R Kd.string 9 w' w.heap.size (fun k_ => some k_ ≠ (s_.2.1 : Value).ownBlock ∧ some k_ ≠ (s_.2.2 : Value).ownBlock ∧ some k_ ≠ (.slice Ao26 t112.length co26 : Value).ownBlock) (.slice Ao25 t109.length co25) t109) ∧ (Kd.R Kd.string 9 w' w.heap.size (fun k_ => some k_ ≠ (s_.2.1 : Value).ownBlock ∧ some k_ ≠ (s_.2.2 : Value).ownBlock ∧ some k_ ≠ (.slice Ao25 t109.length co25 : Value).ownBlock) (.slice Ao26 t112.length co26) t112) ∧ (w'.heap[gb116]? = some (.cells #[.int .i64 t108, .slice Ao25 t109.length co25, .slice Ao26 t112.length co26] 29 (0, 0))) ∧ (Below w.heap.size w w')) ?_ ?_
             rotate_left
             ·intro hJ2_5_6
              refine join_ (σ := Value × Value × Nat) 4 #[true, true, true, true, true, true, false, true, true, false, false, true, false] (fun s_ => [(73, s_.1), (76, s_.2.1), (20, .pointer (some ⟨s_.2.2, 0, none⟩))]) (fun s_ w' => (w'.cell? ⟨gb116, 0, none⟩ = some (.int .i64 t108) ∧ w'.cell? ⟨gb116, 1, none⟩ = some (.slice Ao25 t109.length co25) ∧ w'.cell? ⟨gb116, 2, none⟩ = some (.slice Ao26 t112.length co26)) ∧ (Kd.R Kd.string 9 w' w.heap.size (fun k_ => some k_ ≠ (.slice Ao25 t109.length co25 : Value).ownBlock ∧ some k_ ≠ (.slice Ao26 t112.length co26 : Value).ownBlock) s_.2.1 y120) ∧ (Kd.R Kd.string 9 w' w.heap.size (fun k_ => some k_ ≠ (s_.2.1 : Value).ownBlock ∧ some k_ ≠ (.slice Ao26 t112.length co26 : Value).ownBlock) (.slice Ao25 t109.length co25) t109) ∧ (Kd.R Kd.string 9 w' w.heap.size (fun k_ => some k_ ≠ (s_.2.1 : Value).ownBlock ∧ some k_ ≠ (.slice Ao25 t109.length co25 : Value).ownBlock) (.slice Ao26 t112.length co26) t112) ∧ (w'.heap[gb116]? = some (.cells #[.int .i64 t108, .slice Ao25 t109.length co25, .slice Ao26 t112.length co26] 29 (0, 0))) ∧ (w'.heap[s_.2.2]? = some (.cells #[.int .i64 0, .slice none 0 0, .slice none 0 0] 29 (0, 0))) ∧ (w.heap.size ≤ s_.2.2) ∧ (w.heap.size ≤ s_.2.2) ∧ (gb116 ≠ s_.2.2) ∧ (s_.2.2 ≠ gb116) ∧ (Below w.heap.size w w')) ?_ ?_
              rotate_left
              ·intro hJ2_5_11
               refine join_ (σ := Value × Value × Nat) 4 #[true, true, true, true, true, false, true, true, true, false, false, true, false] (fun s_ => [(73, s_.1), (77, s_.2.1), (20, .pointer (some ⟨s_.2.2, 0, none⟩))]) (fun s_ w' => (w'.cell? ⟨gb116, 0, none⟩ = some (.int .i64 t108) ∧ w'.cell? ⟨gb116, 1, none⟩ = some (.slice Ao25 t109.length co25) ∧ w'.cell? ⟨gb116, 2, none⟩ = some (.slice Ao26 t112.length co26)) ∧ (Kd.R Kd.string 9 w' w.heap.size (fun k_ => some k_ ≠ (s_.2.1 : Value).ownBlock ∧ some k_ ≠ (.slice Ao25 t109.length co25 : Value).ownBlock ∧ some k_ ≠ (.slice Ao26 t112.length co26 : Value).ownBlock) s_.1 y117) ∧ (Kd.R Kd.string 9 w' w.heap.size (fun k_ => some k_ ≠ (s_.1 : Value).ownBlock ∧ some k_ ≠ (.slice Ao25 t109.length co25 : Value).ownBlock ∧ some k_ ≠ (.slice Ao26 t112.length co26 : Value).ownBlock) s_.2.1 y123) ∧ (Kd.R Kd.string 9 w' w.heap.size (fun k_ => some k_ ≠ (s_.1 : Value).ownBlock ∧ some k_ ≠ (s_.2.1 : Value).ownBlock ∧ some k_ ≠ (.slice Ao26 t112.length co26 : Value).ownBlock) (.slice Ao25 t109.length co25) t109) ∧ (Kd.R Kd.string 9 w' w.heap.size (fun k_ => some k_ ≠ (s_.1 : Value).ownBlock ∧ some k_ ≠ (s_.2.1 : Value).ownBlock ∧ some k_ ≠ (.slice Ao25 t109.length co25 : Value).ownBlock) (.slice Ao26 t112.length co26) t112) ∧ (w'.heap[gb116]? = some (.cells #[.int .i64 t108, .slice Ao25 t109.length co25, .slice Ao26 t112.length co26] 29 (0, 0))) ∧ (w'.heap[s_.2.2]? = some (.cells #[.int .i64 0, .slice none 0 0, .slice none 0 0] 29 (0, 0))) ∧ (w.heap.size ≤ s_.2.2) ∧ (w.heap.size ≤ s_.2.2) ∧ (gb116 ≠ s_.2.2) ∧ (s_.2.2 ≠ gb116) ∧ (Below w.heap.size w w')) ?_ ?_
               rotate_left
               ·intro hJ2_6_11
                refine join_ (σ := Value × Value) 5 #[true, true, true, true, true, true, false, true, true, false, false, false, false] (fun s_ => [(73, s_.1), (76, s_.2)]) (fun s_ w' => (w'.cell? ⟨gb116, 0, none⟩ = some (.int .i64 t108) ∧ w'.cell? ⟨gb116, 1, none⟩ = some (.slice Ao25 t109.length co25) ∧ w'.cell? ⟨gb116, 2, none⟩ = some (.slice Ao26 t112.length co26)) ∧ (Kd.R Kd.string 9 w' w.heap.size (fun k_ => some k_ ≠ (.slice Ao25 t109.length co25 : Value).ownBlock ∧ some k_ ≠ (.slice Ao26 t112.length co26 : Value).ownBlock) s_.2 y120) ∧ (Kd.R Kd.string 9 w' w.heap.size (fun k_ => some k_ ≠ (s_.2 : Value).ownBlock ∧ some k_ ≠ (.slice Ao26 t112.length co26 : Value).ownBlock) (.slice Ao25 t109.length co25) t109) ∧ (Kd.R Kd.string 9 w' w.heap.size (fun k_ => some k_ ≠ (s_.2 : Value).ownBlock ∧ some k_ ≠ (.slice Ao25 t109.length co25 : Value).ownBlock) (.slice Ao26 t112.length co26) t112) ∧ (w'.heap[gb116]? = some (.cells #[.int .i64 t108, .slice Ao25 t109.length co25, .slice Ao26 t112.length co26] 29 (0, 0))) ∧ (Below w.heap.size w w')) ?_ ?_
                rotate_left
                ·intro hJ2_5
                 refine join_ (σ := Value × Value) 5 #[true, true, true, true, true, false, true, true, true, false, false, false, false] (fun s_ => [(73, s_.1), (77, s_.2)]) (fun s_ w' => (w'.cell? ⟨gb116, 0, none⟩ = some (.int .i64 t108) ∧ w'.cell? ⟨gb116, 1, none⟩ = some (.slice Ao25 t109.length co25) ∧ w'.cell? ⟨gb116, 2, none⟩ = some (.slice Ao26 t112.length co26)) ∧ (Kd.R Kd.string 9 w' w.heap.size (fun k_ => some k_ ≠ (s_.2 : Value).ownBlock ∧ some k_ ≠ (.slice Ao25 t109.length co25 : Value).ownBlock ∧ some k_ ≠ (.slice Ao26 t112.length co26 : Value).ownBlock) s_.1 y117) ∧ (Kd.R Kd.string 9 w' w.heap.size (fun k_ => some k_ ≠ (s_.1 : Value).ownBlock ∧ some k_ ≠ (.slice Ao25 t109.length co25 : Value).ownBlock ∧ some k_ ≠ (.slice Ao26 t112.length co26 : Value).ownBlock) s_.2 y123) ∧ (Kd.R Kd.string 9 w' w.heap.size (fun k_ => some k_ ≠ (s_.1 : Value).ownBlock ∧ some k_ ≠ (s_.2 : Value).ownBlock ∧ some k_ ≠ (.slice Ao26 t112.length co26 : Value).ownBlock) (.slice Ao25 t109.length co25) t109) ∧ (Kd.R Kd.string 9 w' w.heap.size (fun k_ => some k_ ≠ (s_.1 : Value).ownBlock ∧ some k_ ≠ (s_.2 : Value).ownBlock ∧ some k_ ≠ (.slice Ao25 t109.length co25 : Value).ownBlock) (.slice Ao26 t112.length co26) t112) ∧ (w'.heap[gb116]? = some (.cells #[.int .i64 t108, .slice Ao25 t109.length co25, .slice Ao26 t112.length co26] 29 (0, 0))) ∧ (Below w.heap.size w w')) ?_ ?_
                 rotate_left
                 ·intro hJ2_6
                  refine join_ (σ := Value × Nat) 5 #[true, true, true, true, true, false, false, true, true, false, false, true, false] (fun s_ => [(73, s_.1), (20, .pointer (some ⟨s_.2, 0, none⟩))]) (fun s_ w' => (w'.cell? ⟨gb116, 0, none⟩ = some (.int .i64 t108) ∧ w'.cell? ⟨gb116, 1, none⟩ = some (.slice Ao25 t109.length co25) ∧ w'.cell? ⟨gb116, 2, none⟩ = some (.slice Ao26 t112.length co26)) ∧ (Kd.R Kd.string 9 w' w.heap.size (fun k_ => some k_ ≠ (.slice Ao25 t109.length co25 : Value).ownBlock ∧ some k_ ≠ (.slice Ao26 t112.length co26 : Value).ownBlock) s_.1 y117) ∧ (Kd.R Kd.string 9 w' w.heap.size (fun k_ => some k_ ≠ (s_.1 : Value).ownBlock ∧ some k_ ≠ (.slice Ao26 t112.length co26 : Value).ownBlock) (.slice Ao25 t109.length co25) t109) ∧ (Kd.R Kd.string 9 w' w.heap.size (fun k_ => some k_ ≠ (s_.1 : Value).ownBlock ∧ some k_ ≠ (.slice Ao25 t109.length co25 : Value).ownBlock) (.slice Ao26 t112.length co26) t112) ∧ (w'.heap[gb116]? = some (.cells #[.int .i64 t108, .slice Ao25 t109.length co25, .slice Ao26 t112.length co26] 29 (0, 0))) ∧ (w'.heap[s_.2]? = some (.cells #[.int .i64 0, .slice none 0 0, .slice none 0 0] 29 (0, 0))) ∧ (w.heap.size ≤ s_.2) ∧ (w.heap.size ≤ s_.2) ∧ (gb116 ≠ s_.2) ∧ (s_.2 ≠ gb116) ∧ (Below w.heap.size w w')) ?_ ?_
                  rotate_left
                  ·intro hJ2_11
                   refine join_ (σ := Value × Nat) 5 #[true, true, false, true, true, false, true, true, true, false, false, true, false] (fun s_ => [(77, s_.1), (20, .pointer (some ⟨s_.2, 0, none⟩))]) (fun s_ w' => (w'.cell? ⟨gb116, 0, none⟩ = some (.int .i64 t108) ∧ w'.cell? ⟨gb116, 1, none⟩ = some (.slice Ao25 t109.length co25) ∧ w'.cell? ⟨gb116, 2, none⟩ = some (.slice Ao26 t112.length co26)) ∧ (Kd.R Kd.string 9 w' w.heap.size (fun k_ => some k_ ≠ (.slice Ao25 t109.length co25 : Value).ownBlock ∧ some k_ ≠ (.slice Ao26 t112.length co26 : Value).ownBlock) s_.1 y123) ∧ (Kd.R Kd.string 9 w' w.heap.size (fun k_ => some k_ ≠ (s_.1 : Value).ownBlock ∧ some k_ ≠ (.slice Ao26 t112.length co26 : Value).ownBlock) (.slice Ao25 t109.length co25) t109) ∧ (Kd.R Kd.string 9 w' w.heap.size (fun k_ => some k_ ≠ (s_.1 : Value).ownBlock ∧ some k_ ≠ (.slice Ao25 t109.length co25 : Value).ownBlock) (.slice Ao26 t112.length co26) t112) ∧ (w'.heap[gb116]? = some (.cells #[.int .i64 t108, .slice Ao25 t109.length co25, .slice Ao26 t112.length co26] 29 (0, 0))) ∧ (w'.heap[s_.2]? = some (.cells #[.int .i64 0, .slice none 0 0, .slice none 0 0] 29 (0, 0))) ∧ (w.heap.size ≤ s_.2) ∧ (w.heap.size ≤ s_.2) ∧ (gb116 ≠ s_.2) ∧ (s_.2 ≠ gb116) ∧ (Below w.heap.size w w')) ?_ ?_
                   rotate_left
                   ·intro hJ6_11
                    refine join_ (σ := Value) 6 #[true, true, true, true, true, false, false, true, true, false, false, false, false] (fun s_ => [(73, s_)]) (fun s_ w' => (w'.cell? ⟨gb116, 0, none⟩ = some (.int .i64 t108) ∧ w'.cell? ⟨gb116, 1, none⟩ = some (.slice Ao25 t109.length co25) ∧ w'.cell? ⟨gb116, 2, none⟩ = some (.slice Ao26 t112.length co26)) ∧ (Kd.R Kd.string 9 w' w.heap.size (fun k_ => some k_ ≠ (.slice Ao25 t109.length co25 : Value).ownBlock ∧ some k_ ≠ (.slice Ao26 t112.length co26 : Value).ownBlock) s_ y117) ∧ (Kd.R Kd.string 9 w' w.heap.size (fun k_ => some k_ ≠ (s_ : Value).ownBlock ∧ some k_ ≠ (.slice Ao26 t112.length co26 : Value).ownBlock) (.slice Ao25 t109.length co25) t109) ∧ (Kd.R Kd.string 9 w' w.heap.size (fun k_ => some k_ ≠ (s_ : Value).ownBlock ∧ some k_ ≠ (.slice Ao25 t109.length co25 : Value).ownBlock) (.slice Ao26 t112.length co26) t112) ∧ (w'.heap[gb116]? = some (.cells #[.int .i64 t108, .slice Ao25 t109.length co25, .slice Ao26 t112.length co26] 29 (0, 0))) ∧ (Below w.heap.size w w')) ?_ ?_
                    rotate_left
                    ·intro hJ2
                     refine join_ (σ := Value) 6 #[true, true, false, true, true, false, true, true, true, false, false, false, false] (fun s_ => [(77, s_)]) (fun s_ w' => (w'.cell? ⟨gb116, 0, none⟩ = some (.int .i64 t108) ∧ w'.cell? ⟨gb116, 1, none⟩ = some (.slice Ao25 t109.length co25) ∧ w'.cell? ⟨gb116, 2, none⟩ = some (.slice Ao26 t112.length co26)) ∧ (Kd.R Kd.string 9 w' w.heap.size (fun k_ => some k_ ≠ (.slice Ao25 t109.length co25 : Value).ownBlock ∧ some k_ ≠ (.slice Ao26 t112.length co26 : Value).ownBlock) s_ y123) ∧ (Kd.R Kd.string 9 w' w.heap.size (fun k_ => some k_ ≠ (s_ : Value).ownBlock ∧ some k_ ≠ (.slice Ao26 t112.length co26 : Value).ownBlock) (.slice Ao25 t109.length co25) t109) ∧ (Kd.R Kd.string 9 w' w.heap.size (fun k_ => some k_ ≠ (s_ : Value).ownBlock ∧ some k_ ≠ (.slice Ao25 t109.length co25 : Value).ownBlock) (.slice Ao26 t112.length co26) t112) ∧ (w'.heap[gb116]? = some (.cells #[.int .i64 t108, .slice Ao25 t109.length co25, .slice Ao26 t112.length co26] 29 (0, 0))) ∧ (Below w.heap.size w w')) ?_ ?_
                     rotate_left
                     ·intro hJ6
                      refine join_ (σ := Nat) 6 #[true, true, false, true, true, false, false, true, true, false, false, true, false] (fun s_ => [(20, .pointer (some ⟨s_, 0, none⟩))]) (fun s_ w' => (w'.cell? ⟨gb116, 0, none⟩ = some (.int .i64 t108) ∧ w'.cell? ⟨gb116, 1, none⟩ = some (.slice Ao25 t109.length co25) ∧ w'.cell? ⟨gb116, 2, none⟩ = some (.slice Ao26 t112.length co26)) ∧ (Kd.R Kd.string 9 w' w.heap.size (fun k_ => some k_ ≠ (.slice Ao26 t112.length co26 : Value).ownBlock) (.slice Ao25 t109.length co25) t109) ∧ (Kd.R Kd.string 9 w' w.heap.size (fun k_ => some k_ ≠ (.slice Ao25 t109.length co25 : Value).ownBlock) (.slice Ao26 t112.length co26) t112) ∧ (w'.heap[gb116]? = some (.cells #[.int .i64 t108, .slice Ao25 t109.length co25, .slice Ao26 t112.length co26] 29 (0, 0))) ∧ (w'.heap[s_]? = some (.cells #[.int .i64 0, .slice none 0 0, .slice none 0 0] 29 (0, 0))) ∧ (w.heap.size ≤ s_) ∧ (w.heap.size ≤ s_) ∧ (gb116 ≠ s_) ∧ (s_ ≠ gb116) ∧ (Below w.heap.size w w')) ?_ ?_
                      rotate_left
                      ·intro hJ11
                       refine three_ (i := 2) (j := 6) (k := 11) (Ni := some 73) (Nj := some 77) (Nk := some 20) #[true, true, true, true, true, false, false, true, true, false, false, false, false] #[true, true, false, true, true, false, true, true, true, false, false, false, false] #[true, true, false, true, true, false, false, true, true, false, false, true, false] rfl rfl rfl rfl rfl rfl (three_of HT_.out (by kernel_rfl)) (by decide) (by decide) (by decide) (fun K hK => ?_) (fun K hK => ?_) (fun K hK => ?_)
                       ·skip
                        refine Kd.R_lit_step Kd.string _ 9 ?hg (N := 73) ?hd (xs := ([] : List ByteArray)) (inner := []) (ok := fun _ => True) (okp := fun _ => True) ?hr ?hp (fun _ hk => hk) trivial (Below.refl _ _) (Nat.le_refl _) (by simp) ?_; (case hd => rfl); (case hg => rfl); (case hr => first | (go_simp; done) | (go_simp; rfl)); (case hp => exact (Reps.none _ _))
                        intro v118 w38 ho39 hb hg_ hnew_
                        clear hg_ hnew_
                        (first | rw [← Ny117.out] at ho39 | (simp only [Int.reduceToNat] at ho39; rw [← Ny117.out] at ho39))
                        have n0_ := Aside0.mk (Kd.R_elder' (by exact upR HO_117001.out) (Kd.R_base ho39) hb)
                        have n1_ := Aside0.mk (Kd.R_elder' (by exact upR HO_117002.out) (Kd.R_base ho39) hb)
                        have n2_ := Aside0.mk (Kd.R_lower (Kd.R_new' (Kd.R_new' ho39 (Kd.R_lt (by exact upR HO_117001.out))) (Kd.R_lt (by exact upR HO_117002.out))) (below_size (by exact upB HB.out)))
                        have n3_ := Aside0.mk (blk_below (g := gb116) (o := .cells #[.int .i64 t108, .slice Ao25 t109.length co25, .slice Ao26 t112.length co26] 29 (0, 0)) (by exact upK BK116.out) hb)
                        have n4_ := Aside0.mk (below_step (by exact upB HB.out) hb)
                        clear HO_117001
                        clear HO_117002
                        clear BK116
                        clear HB
                        have HO_117001 := n0_
                        have HO_117002 := n1_
                        have HO119 := n2_
                        have BK116 := n3_
                        have HB := n4_
                        clear n0_ n1_ n2_ n3_ n4_
                        clear hb ho39
                        refine hK.out _ _ ⟨(blk_cell BK116.out 0).trans rfl, (blk_cell BK116.out 1).trans rfl, (blk_cell BK116.out 2).trans rfl⟩ (fun hHeld => ?_)
                        clear hK K
                        refine norm_ (a' := ?_) ?_ ?_
                        rotate_left
                        ·show Act.put _ (some 73) _ = _
                         simp only [Act.put, List.setIfInBounds_toArray, List.set_cons_zero, List.set_cons_succ, i64_w, i32_w]
                         rfl
                        exact norm_ (by rfl) (hJ2 (v118) _ ⟨hHeld, (by exact upR (Kd.R_mono HO119.out (fun _ hk => ⟨hk.1.2, hk.2⟩))), (by exact upR (Kd.R_mono HO_117001.out (fun _ hk => ⟨hk.2, hk.1⟩))), (by exact upR (Kd.R_mono HO_117002.out (fun _ hk => ⟨hk.2, hk.1⟩))), (by exact upK BK116.out), (by exact upB HB.out)⟩)
                       ·skip
                        refine Kd.R_lit_step Kd.string _ 9 ?hg (N := 77) ?hd (xs := ([] : List ByteArray)) (inner := []) (ok := fun _ => True) (okp := fun _ => True) ?hr ?hp (fun _ hk => hk) trivial (Below.refl _ _) (Nat.le_refl _) (by simp) ?_; (case hd => rfl); (case hg => rfl); (case hr => first | (go_simp; done) | (go_simp; rfl)); (case hp => exact (Reps.none _ _))
                        intro v124 w38 ho39 hb hg_ hnew_
                        clear hg_ hnew_
                        (first | rw [← Ny123.out] at ho39 | (simp only [Int.reduceToNat] at ho39; rw [← Ny123.out] at ho39))
                        have n0_ := Aside0.mk (Kd.R_elder' (by exact upR HO_117001.out) (Kd.R_base ho39) hb)
                        have n1_ := Aside0.mk (Kd.R_elder' (by exact upR HO_117002.out) (Kd.R_base ho39) hb)
                        have n2_ := Aside0.mk (Kd.R_lower (Kd.R_new' (Kd.R_new' ho39 (Kd.R_lt (by exact upR HO_117001.out))) (Kd.R_lt (by exact upR HO_117002.out))) (below_size (by exact upB HB.out)))
                        have n3_ := Aside0.mk (blk_below (g := gb116) (o := .cells #[.int .i64 t108, .slice Ao25 t109.length co25, .slice Ao26 t112.length co26] 29 (0, 0)) (by exact upK BK116.out) hb)
                        have n4_ := Aside0.mk (below_step (by exact upB HB.out) hb)
                        clear HO_117001
                        clear HO_117002
                        clear BK116
                        clear HB
                        have HO_117001 := n0_
                        have HO_117002 := n1_
                        have HO125 := n2_
                        have BK116 := n3_
                        have HB := n4_
                        clear n0_ n1_ n2_ n3_ n4_
                        clear hb ho39
                        refine hK.out _ _ ⟨(blk_cell BK116.out 0).trans rfl, (blk_cell BK116.out 1).trans rfl, (blk_cell BK116.out 2).trans rfl⟩ (fun hHeld => ?_)
                        clear hK K
                        refine norm_ (a' := ?_) ?_ ?_
                        rotate_left
                        ·show Act.put _ (some 77) _ = _
                         simp only [Act.put, List.setIfInBounds_toArray, List.set_cons_zero, List.set_cons_succ, i64_w, i32_w]
                         rfl
                        exact norm_ (by rfl) (hJ6 (v124) _ ⟨hHeld, (by exact upR (Kd.R_mono HO125.out (fun _ hk => ⟨hk.1.2, hk.2⟩))), (by exact upR (Kd.R_mono HO_117001.out (fun _ hk => ⟨hk.2, hk.1⟩))), (by exact upR (Kd.R_mono HO_117002.out (fun _ hk => ⟨hk.2, hk.1⟩))), (by exact upK BK116.out), (by exact upB HB.out)⟩)
                       ·skip
                        refine box_step ?hg (N := 20) ?hd (cs := #[.int .i64 0, .slice none 0 0, .slice none 0 0]) (t := 29) ?hr ?_; (case hd => rfl); (case hg => rfl); (case hr => first | (go_simp; done) | (go_simp; rfl))
                        intro gb129 hg w38 hbox hb
                        have n0_ := Aside0.mk (Kd.R_below (by exact upR HO_117001.out) hb)
                        have n1_ := Aside0.mk (Kd.R_below (by exact upR HO_117002.out) hb)
                        have n2_ := Aside0.mk (blk_below (g := gb116) (o := .cells #[.int .i64 t108, .slice Ao25 t109.length co25, .slice Ao26 t112.length co26] 29 (0, 0)) (by exact upK BK116.out) hb)
                        have n3_ := Aside0.mk (below_step (by exact upB HB.out) hb)
                        have n4_ := Aside0.mk (hbox)
                        have n5_ := Aside0.mk ((by rw [hg]; exact (below_size (by exact upB HB.out)) : w.heap.size ≤ gb129))
                        have n6_ := Aside0.mk ((by rw [hg]; exact (below_size (by exact upB HB.out)) : w.heap.size ≤ gb129))
                        have n7_ := Aside0.mk ((by rw [hg]; exact Nat.ne_of_lt (blk_lt (g := gb116) (o := .cells #[.int .i64 t108, .slice Ao25 t109.length co25, .slice Ao26 t112.length co26] 29 (0, 0)) (by exact upK BK116.out)) : gb116 ≠ gb129))
                        have n8_ := Aside0.mk ((by rw [hg]; exact Nat.ne_of_gt (blk_lt (g := gb116) (o := .cells #[.int .i64 t108, .slice Ao25 t109.length co25, .slice Ao26 t112.length co26] 29 (0, 0)) (by exact upK BK116.out)) : gb129 ≠ gb116))
                        clear HO_117001
                        clear HO_117002
                        clear BK116
                        clear HB
                        have HO_117001 := n0_
                        have HO_117002 := n1_
                        have BK116 := n2_
                        have HB := n3_
                        have BK129 := n4_
                        have GW129 := n5_
                        have GE129 := n6_
                        have NB116_129 := n7_
                        have NB129_116 := n8_
                        clear n0_ n1_ n2_ n3_ n4_ n5_ n6_ n7_ n8_
                        clear hb hbox hg
                        refine hK.out _ _ ⟨(blk_cell BK116.out 0).trans rfl, (blk_cell BK116.out 1).trans rfl, (blk_cell BK116.out 2).trans rfl⟩ (fun hHeld => ?_)
                        clear hK K
                        refine norm_ (a' := ?_) ?_ ?_
                        rotate_left
                        ·show Act.put _ (some 20) _ = _
                         simp only [Act.put, List.setIfInBounds_toArray, List.set_cons_zero, List.set_cons_succ, i64_w, i32_w]
                         rfl
                        exact norm_ (by rfl) (hJ11 (gb129) _ ⟨hHeld, (by exact upR HO_117001.out), (by exact upR HO_117002.out), (by exact upK BK116.out), (by exact upK BK129.out), GW129.out, GE129.out, NB116_129.out, NB129_116.out, (by exact upB HB.out)⟩)
                      ·skip
                       rintro gb129 w39 ⟨hS_, h0_, h1_, h2_, h3_, h4_, h5_, h6_, h7_, h8_⟩
                       have n0_ : Aside0 (Kd.R Kd.string 9 w39 w.heap.size (fun k_ => some k_ ≠ (.slice Ao26 t112.length co26 : Value).ownBlock) (.slice Ao25 t109.length co25) t109) := ⟨h0_⟩
                       have n1_ : Aside0 (Kd.R Kd.string 9 w39 w.heap.size (fun k_ => some k_ ≠ (.slice Ao25 t109.length co25 : Value).ownBlock) (.slice Ao26 t112.length co26) t112) := ⟨h1_⟩
                       have n2_ : Aside0 (w39.heap[gb116]? = some (.cells #[.int .i64 t108, .slice Ao25 t109.length co25, .slice Ao26 t112.length co26] 29 (0, 0))) := ⟨h2_⟩
                       have n3_ : Aside0 (w39.heap[gb129]? = some (.cells #[.int .i64 0, .slice none 0 0, .slice none 0 0] 29 (0, 0))) := ⟨h3_⟩
                       have n4_ : Aside0 (w.heap.size ≤ gb129) := ⟨h4_⟩
                       have n5_ : Aside0 (w.heap.size ≤ gb129) := ⟨h5_⟩
                       have n6_ : Aside0 (gb116 ≠ gb129) := ⟨h6_⟩
                       have n7_ : Aside0 (gb129 ≠ gb116) := ⟨h7_⟩
                       have n8_ : Aside0 (Below w.heap.size w w39) := ⟨h8_⟩
                       clear HO_117001
                       clear HO_117002
                       clear BK116
                       clear HB
                       clear h0_ h1_ h2_ h3_ h4_ h5_ h6_ h7_ h8_
                       have HO_117001 := n0_
                       have HO_117002 := n1_
                       have BK116 := n2_
                       have BK129 := n3_
                       have GW129 := n4_
                       have GE129 := n5_
                       have NB116_129 := n6_
                       have NB129_116 := n7_
                       have HB := n8_
                       clear n0_ n1_ n2_ n3_ n4_ n5_ n6_ n7_ n8_
                       have hHeld : w39.cell? ⟨gb116, 0, none⟩ = some (.int .i64 t108) ∧ w39.cell? ⟨gb116, 1, none⟩ = some (.slice Ao25 t109.length co25) ∧ w39.cell? ⟨gb116, 2, none⟩ = some (.slice Ao26 t112.length co26) := hS_
                       refine norm_ (a' := ?_) ?_ ?_
                       rotate_left
                       ·simp only [putAll, Act.put, List.setIfInBounds_toArray, List.set_cons_zero, List.set_cons_succ]
                        rfl
                       refine two_ (i := 2) (j := 6) (Ni := some 73) (Nj := some 77) #[true, true, true, true, true, false, false, true, true, false, false, true, false] #[true, true, false, true, true, false, true, true, true, false, false, true, false] rfl rfl rfl rfl (two_of HT_.out (by kernel_rfl)) (by decide) (by decide) (fun K hK => ?_) (fun K hK => ?_)
                       ·skip
                        refine Kd.R_lit_step Kd.string _ 9 ?hg (N := 73) ?hd (xs := ([] : List ByteArray)) (inner := []) (ok := fun _ => True) (okp := fun _ => True) ?hr ?hp (fun _ hk => hk) trivial (Below.refl _ _) (Nat.le_refl _) (by simp) ?_; (case hd => rfl); (case hg => rfl); (case hr => first | (go_simp; done) | (go_simp; rfl)); (case hp => exact (Reps.none _ _))
                        intro v118 w40 ho41 hb hg_ hnew_
                        clear hg_ hnew_
                        (first | rw [← Ny117.out] at ho41 | (simp only [Int.reduceToNat] at ho41; rw [← Ny117.out] at ho41))
                        have n0_ := Aside0.mk (Kd.R_elder' (by exact upR HO_117001.out) (Kd.R_base ho41) hb)
                        have n1_ := Aside0.mk (Kd.R_elder' (by exact upR HO_117002.out) (Kd.R_base ho41) hb)
                        have n2_ := Aside0.mk (Kd.R_lower (Kd.R_new' (Kd.R_new' ho41 (Kd.R_lt (by exact upR HO_117001.out))) (Kd.R_lt (by exact upR HO_117002.out))) (below_size (by exact upB HB.out)))
                        have n3_ := Aside0.mk (blk_below (g := gb116) (o := .cells #[.int .i64 t108, .slice Ao25 t109.length co25, .slice Ao26 t112.length co26] 29 (0, 0)) (by exact upK BK116.out) hb)
                        have n4_ := Aside0.mk (blk_below (g := gb129) (o := .cells #[.int .i64 0, .slice none 0 0, .slice none 0 0] 29 (0, 0)) (by exact upK BK129.out) hb)
                        have n5_ := Aside0.mk (below_step (by exact upB HB.out) hb)
                        clear HO_117001
                        clear HO_117002
                        clear BK116
                        clear BK129
                        clear HB
                        have HO_117001 := n0_
                        have HO_117002 := n1_
                        have HO119 := n2_
                        have BK116 := n3_
                        have BK129 := n4_
                        have HB := n5_
                        clear n0_ n1_ n2_ n3_ n4_ n5_
                        clear hb ho41
                        refine hK.out _ _ ⟨(blk_cell BK116.out 0).trans rfl, (blk_cell BK116.out 1).trans rfl, (blk_cell BK116.out 2).trans rfl⟩ (fun hHeld => ?_)
                        clear hK K
                        refine norm_ (a' := ?_) ?_ ?_
                        rotate_left
                        ·show Act.put _ (some 73) _ = _
                         simp only [Act.put, List.setIfInBounds_toArray, List.set_cons_zero, List.set_cons_succ, i64_w, i32_w]
                         rfl
                        exact norm_ (by rfl) (hJ2_11 (v118, gb129) _ ⟨hHeld, (by exact upR (Kd.R_mono HO119.out (fun _ hk => ⟨hk.1.2, hk.2⟩))), (by exact upR (Kd.R_mono HO_117001.out (fun _ hk => ⟨hk.2, hk.1⟩))), (by exact upR (Kd.R_mono HO_117002.out (fun _ hk => ⟨hk.2, hk.1⟩))), (by exact upK BK116.out), (by exact upK BK129.out), GW129.out, GE129.out, NB116_129.out, NB129_116.out, (by exact upB HB.out)⟩)
                       ·skip
                        refine Kd.R_lit_step Kd.string _ 9 ?hg (N := 77) ?hd (xs := ([] : List ByteArray)) (inner := []) (ok := fun _ => True) (okp := fun _ => True) ?hr ?hp (fun _ hk => hk) trivial (Below.refl _ _) (Nat.le_refl _) (by simp) ?_; (case hd => rfl); (case hg => rfl); (case hr => first | (go_simp; done) | (go_simp; rfl)); (case hp => exact (Reps.none _ _))
                        intro v124 w40 ho41 hb hg_ hnew_
                        clear hg_ hnew_
                        (first | rw [← Ny123.out] at ho41 | (simp only [Int.reduceToNat] at ho41; rw [← Ny123.out] at ho41))
                        have n0_ := Aside0.mk (Kd.R_elder' (by exact upR HO_117001.out) (Kd.R_base ho41) hb)
                        have n1_ := Aside0.mk (Kd.R_elder' (by exact upR HO_117002.out) (Kd.R_base ho41) hb)
                        have n2_ := Aside0.mk (Kd.R_lower (Kd.R_new' (Kd.R_new' ho41 (Kd.R_lt (by exact upR HO_117001.out))) (Kd.R_lt (by exact upR HO_117002.out))) (below_size (by exact upB HB.out)))
                        have n3_ := Aside0.mk (blk_below (g := gb116) (o := .cells #[.int .i64 t108, .slice Ao25 t109.length co25, .slice Ao26 t112.length co26] 29 (0, 0)) (by exact upK BK116.out) hb)
                        have n4_ := Aside0.mk (blk_below (g := gb129) (o := .cells #[.int .i64 0, .slice none 0 0, .slice none 0 0] 29 (0, 0)) (by exact upK BK129.out) hb)
                        have n5_ := Aside0.mk (below_step (by exact upB HB.out) hb)
                        clear HO_117001
                        clear HO_117002
                        clear BK116
                        clear BK129
                        clear HB
                        have HO_117001 := n0_
                        have HO_117002 := n1_
                        have HO125 := n2_
                        have BK116 := n3_
                        have BK129 := n4_
                        have HB := n5_
                        clear n0_ n1_ n2_ n3_ n4_ n5_
                        clear hb ho41
                        refine hK.out _ _ ⟨(blk_cell BK116.out 0).trans rfl, (blk_cell BK116.out 1).trans rfl, (blk_cell BK116.out 2).trans rfl⟩ (fun hHeld => ?_)
                        clear hK K
                        refine norm_ (a' := ?_) ?_ ?_
                        rotate_left
                        ·show Act.put _ (some 77) _ = _
                         simp only [Act.put, List.setIfInBounds_toArray, List.set_cons_zero, List.set_cons_succ, i64_w, i32_w]
                         rfl
                        exact norm_ (by rfl) (hJ6_11 (v124, gb129) _ ⟨hHeld, (by exact upR (Kd.R_mono HO125.out (fun _ hk => ⟨hk.1.2, hk.2⟩))), (by exact upR (Kd.R_mono HO_117001.out (fun _ hk => ⟨hk.2, hk.1⟩))), (by exact upR (Kd.R_mono HO_117002.out (fun _ hk => ⟨hk.2, hk.1⟩))), (by exact upK BK116.out), (by exact upK BK129.out), GW129.out, GE129.out, NB116_129.out, NB129_116.out, (by exact upB HB.out)⟩)
                     ·skip
                      rintro v124 w40 ⟨hS_, h0_, h1_, h2_, h3_, h4_⟩
                      have n0_ : Aside0 (Kd.R Kd.string 9 w40 w.heap.size (fun k_ => some k_ ≠ (.slice Ao25 t109.length co25 : Value).ownBlock ∧ some k_ ≠ (.slice Ao26 t112.length co26 : Value).ownBlock) v124 y123) := ⟨h0_⟩
                      have n1_ : Aside0 (Kd.R Kd.string 9 w40 w.heap.size (fun k_ => some k_ ≠ (v124 : Value).ownBlock ∧ some k_ ≠ (.slice Ao26 t112.length co26 : Value).ownBlock) (.slice Ao25 t109.length co25) t109) := ⟨h1_⟩
                      have n2_ : Aside0 (Kd.R Kd.string 9 w40 w.heap.size (fun k_ => some k_ ≠ (v124 : Value).ownBlock ∧ some k_ ≠ (.slice Ao25 t109.length co25 : Value).ownBlock) (.slice Ao26 t112.length co26) t112) := ⟨h2_⟩
                      have n3_ : Aside0 (w40.heap[gb116]? = some (.cells #[.int .i64 t108, .slice Ao25 t109.length co25, .slice Ao26 t112.length co26] 29 (0, 0))) := ⟨h3_⟩
                      have n4_ : Aside0 (Below w.heap.size w w40) := ⟨h4_⟩
                      clear HO_117001
                      clear HO_117002
                      clear BK116
                      clear HB
                      clear h0_ h1_ h2_ h3_ h4_
                      have HO125 := n0_
                      have HO_117001 := n1_
                      have HO_117002 := n2_
                      have BK116 := n3_
                      have HB := n4_
                      clear n0_ n1_ n2_ n3_ n4_
                      have hHeld : w40.cell? ⟨gb116, 0, none⟩ = some (.int .i64 t108) ∧ w40.cell? ⟨gb116, 1, none⟩ = some (.slice Ao25 t109.length co25) ∧ w40.cell? ⟨gb116, 2, none⟩ = some (.slice Ao26 t112.length co26) := hS_
                      refine norm_ (a' := ?_) ?_ ?_
                      rotate_left
                      ·simp only [putAll, Act.put, List.setIfInBounds_toArray, List.set_cons_zero, List.set_cons_succ]
                       rfl
                      refine two_ (i := 2) (j := 11) (Ni := some 73) (Nj := some 20) #[true, true, true, true, true, false, true, true, true, false, false, false, false] #[true, true, false, true, true, false, true, true, true, false, false, true, false] rfl rfl rfl rfl (two_of HT_.out (by kernel_rfl)) (by decide) (by decide) (fun K hK => ?_) (fun K hK => ?_)
                      ·skip
                       refine Kd.R_lit_step Kd.string _ 9 ?hg (N := 73) ?hd (xs := ([] : List ByteArray)) (inner := []) (ok := fun _ => True) (okp := fun _ => True) ?hr ?hp (fun _ hk => hk) trivial (Below.refl _ _) (Nat.le_refl _) (by simp) ?_; (case hd => rfl); (case hg => rfl); (case hr => first | (go_simp; done) | (go_simp; rfl)); (case hp => exact (Reps.none _ _))
                       intro v118 w41 ho42 hb hg_ hnew_
                       clear hg_ hnew_
                       (first | rw [← Ny117.out] at ho42 | (simp only [Int.reduceToNat] at ho42; rw [← Ny117.out] at ho42))
                       have n0_ := Aside0.mk (Kd.R_elder' (by exact upR HO_117001.out) (Kd.R_base ho42) hb)
                       have n1_ := Aside0.mk (Kd.R_elder' (by exact upR HO_117002.out) (Kd.R_base ho42) hb)
                       have n2_ := Aside0.mk (Kd.R_elder' (by exact upR HO125.out) (Kd.R_base ho42) hb)
                       have n3_ := Aside0.mk (Kd.R_lower (Kd.R_new' (Kd.R_new' (Kd.R_new' ho42 (Kd.R_lt (by exact upR HO_117001.out))) (Kd.R_lt (by exact upR HO_117002.out))) (Kd.R_lt (by exact upR HO125.out))) (below_size (by exact upB HB.out)))
                       have n4_ := Aside0.mk (blk_below (g := gb116) (o := .cells #[.int .i64 t108, .slice Ao25 t109.length co25, .slice Ao26 t112.length co26] 29 (0, 0)) (by exact upK BK116.out) hb)
                       have n5_ := Aside0.mk (below_step (by exact upB HB.out) hb)
                       clear HO_117001
                       clear HO_117002
                       clear HO125
                       clear BK116
                       clear HB
                       have HO_117001 := n0_
                       have HO_117002 := n1_
                       have HO125 := n2_
                       have HO119 := n3_
                       have BK116 := n4_
                       have HB := n5_
                       clear n0_ n1_ n2_ n3_ n4_ n5_
                       clear hb ho42
                       refine hK.out _ _ ⟨(blk_cell BK116.out 0).trans rfl, (blk_cell BK116.out 1).trans rfl, (blk_cell BK116.out 2).trans rfl⟩ (fun hHeld => ?_)
                       clear hK K
                       refine norm_ (a' := ?_) ?_ ?_
                       rotate_left
                       ·show Act.put _ (some 73) _ = _
                        simp only [Act.put, List.setIfInBounds_toArray, List.set_cons_zero, List.set_cons_succ, i64_w, i32_w]
                        rfl
                       exact norm_ (by rfl) (hJ2_6 (v118, v124) _ ⟨hHeld, (by exact upR (Kd.R_mono HO119.out (fun _ hk => ⟨hk.2, ⟨hk.1.1.2, hk.1.2⟩⟩))), (by exact upR (Kd.R_mono HO125.out (fun _ hk => ⟨hk.2, ⟨hk.1.1, hk.1.2⟩⟩))), (by exact upR (Kd.R_mono HO_117001.out (fun _ hk => ⟨hk.2, ⟨hk.1.1, hk.1.2⟩⟩))), (by exact upR (Kd.R_mono HO_117002.out (fun _ hk => ⟨hk.2, ⟨hk.1.1, hk.1.2⟩⟩))), (by exact upK BK116.out), (by exact upB HB.out)⟩)
                      ·skip
                       refine box_step ?hg (N := 20) ?hd (cs := #[.int .i64 0, .slice none 0 0, .slice none 0 0]) (t := 29) ?hr ?_; (case hd => rfl); (case hg => rfl); (case hr => first | (go_simp; done) | (go_simp; rfl))
                       intro gb129 hg w41 hbox hb
                       have n0_ := Aside0.mk (Kd.R_below (by exact upR HO_117001.out) hb)
                       have n1_ := Aside0.mk (Kd.R_below (by exact upR HO_117002.out) hb)
                       have n2_ := Aside0.mk (Kd.R_below (by exact upR HO125.out) hb)
                       have n3_ := Aside0.mk (blk_below (g := gb116) (o := .cells #[.int .i64 t108, .slice Ao25 t109.length co25, .slice Ao26 t112.length co26] 29 (0, 0)) (by exact upK BK116.out) hb)
                       have n4_ := Aside0.mk (below_step (by exact upB HB.out) hb)
                       have n5_ := Aside0.mk (hbox)
                       have n6_ := Aside0.mk ((by rw [hg]; exact (below_size (by exact upB HB.out)) : w.heap.size ≤ gb129))
                       have n7_ := Aside0.mk ((by rw [hg]; exact (below_size (by exact upB HB.out)) : w.heap.size ≤ gb129))
                       have n8_ := Aside0.mk ((by rw [hg]; exact Nat.ne_of_lt (blk_lt (g := gb116) (o := .cells #[.int .i64 t108, .slice Ao25 t109.length co25, .slice Ao26 t112.length co26] 29 (0, 0)) (by exact upK BK116.out)) : gb116 ≠ gb129))
                       have n9_ := Aside0.mk ((by rw [hg]; exact Nat.ne_of_gt (blk_lt (g := gb116) (o := .cells #[.int .i64 t108, .slice Ao25 t109.length co25, .slice Ao26 t112.length co26] 29 (0, 0)) (by exact upK BK116.out)) : gb129 ≠ gb116))
                       clear HO_117001
                       clear HO_117002
                       clear HO125
                       clear BK116
                       clear HB
                       have HO_117001 := n0_
                       have HO_117002 := n1_
                       have HO125 := n2_
                       have BK116 := n3_
                       have HB := n4_
                       have BK129 := n5_
                       have GW129 := n6_
                       have GE129 := n7_
                       have NB116_129 := n8_
                       have NB129_116 := n9_
                       clear n0_ n1_ n2_ n3_ n4_ n5_ n6_ n7_ n8_ n9_
                       clear hb hbox hg
                       refine hK.out _ _ ⟨(blk_cell BK116.out 0).trans rfl, (blk_cell BK116.out 1).trans rfl, (blk_cell BK116.out 2).trans rfl⟩ (fun hHeld => ?_)
                       clear hK K
                       refine norm_ (a' := ?_) ?_ ?_
                       rotate_left
                       ·show Act.put _ (some 20) _ = _
                        simp only [Act.put, List.setIfInBounds_toArray, List.set_cons_zero, List.set_cons_succ, i64_w, i32_w]
                        rfl
                       exact norm_ (by rfl) (hJ6_11 (v124, gb129) _ ⟨hHeld, (by exact upR HO125.out), (by exact upR HO_117001.out), (by exact upR HO_117002.out), (by exact upK BK116.out), (by exact upK BK129.out), GW129.out, GE129.out, NB116_129.out, NB129_116.out, (by exact upB HB.out)⟩)
                    ·skip
                     rintro v118 w40 ⟨hS_, h0_, h1_, h2_, h3_, h4_⟩
                     have n0_ : Aside0 (Kd.R Kd.string 9 w40 w.heap.size (fun k_ => some k_ ≠ (.slice Ao25 t109.length co25 : Value).ownBlock ∧ some k_ ≠ (.slice Ao26 t112.length co26 : Value).ownBlock) v118 y117) := ⟨h0_⟩
                     have n1_ : Aside0 (Kd.R Kd.string 9 w40 w.heap.size (fun k_ => some k_ ≠ (v118 : Value).ownBlock ∧ some k_ ≠ (.slice Ao26 t112.length co26 : Value).ownBlock) (.slice Ao25 t109.length co25) t109) := ⟨h1_⟩
                     have n2_ : Aside0 (Kd.R Kd.string 9 w40 w.heap.size (fun k_ => some k_ ≠ (v118 : Value).ownBlock ∧ some k_ ≠ (.slice Ao25 t109.length co25 : Value).ownBlock) (.slice Ao26 t112.length co26) t112) := ⟨h2_⟩
                     have n3_ : Aside0 (w40.heap[gb116]? = some (.cells #[.int .i64 t108, .slice Ao25 t109.length co25, .slice Ao26 t112.length co26] 29 (0, 0))) := ⟨h3_⟩
                     have n4_ : Aside0 (Below w.heap.size w w40) := ⟨h4_⟩
                     clear HO_117001
                     clear HO_117002
                     clear BK116
                     clear HB
                     clear h0_ h1_ h2_ h3_ h4_
                     have HO119 := n0_
                     have HO_117001 := n1_
                     have HO_117002 := n2_
                     have BK116 := n3_
                     have HB := n4_
                     clear n0_ n1_ n2_ n3_ n4_
                     have hHeld : w40.cell? ⟨gb116, 0, none⟩ = some (.int .i64 t108) ∧ w40.cell? ⟨gb116, 1, none⟩ = some (.slice Ao25 t109.length co25) ∧ w40.cell? ⟨gb116, 2, none⟩ = some (.slice Ao26 t112.length co26) := hS_
                     refine norm_ (a' := ?_) ?_ ?_
                     rotate_left
                     ·simp only [putAll, Act.put, List.setIfInBounds_toArray, List.set_cons_zero, List.set_cons_succ]
                      rfl
                     refine three_ (i := 5) (j := 6) (k := 11) (Ni := some 76) (Nj := some 77) (Nk := some 20) #[true, true, true, true, true, true, false, true, true, false, false, false, false] #[true, true, true, true, true, false, true, true, true, false, false, false, false] #[true, true, true, true, true, false, false, true, true, false, false, true, false] rfl rfl rfl rfl rfl rfl (three_of HT_.out (by kernel_rfl)) (by decide) (by decide) (by decide) (fun K hK => ?_) (fun K hK => ?_) (fun K hK => ?_)
                     ·skip
                      refine Kd.R_append_rows_step Kd.string (w0 := w) w.heap.size (by rfl) (.tmp 73) (.tmp 75) 27 9 (.string ⟨#[]⟩) 16 rfl Tryd.underlying27 info9 rfl (by decide) (by omega) v118 y117 t109 _ _ _ (fun k_ => some k_ ≠ (.slice Ao25 t109.length co25 : Value).ownBlock ∧ some k_ ≠ (.slice Ao26 t112.length co26 : Value).ownBlock) (fun _ => False) rfl rfl ?aO ?aR (fun _ _ h => h) (fun _ h => h.elim) ?aF ?aB ?aS ?aL ?_
                      (case aR => exact upC ((Kd.R_reads' HO_117001.out).2.2))
                      (case aB => exact (by exact upB HB.out))
                      (case aF => exact (fun k_ hk => ⟨Kd.fresh' (Kd.R_lt (by exact upR HO_117001.out)) k_ hk, Kd.fresh' (Kd.R_lt (by exact upR HO_117002.out)) k_ hk⟩))
                      (case aO => exact (by exact upR HO119.out))
                      (case aS => exact (below_size (by exact upB HB.out)))
                      (case aL => have := LMc33.out; omega)
                      intro v121 w41 ho hb hg hat
                      rw [← Ny120.out] at ho
                      have n0_ := Aside0.mk (Kd.R_after (ok := (fun k_ => some k_ ≠ (.slice Ao26 t112.length co26 : Value).ownBlock)) (by exact upR (Kd.R_mono HO_117001.out (fun _ hk => ⟨hk.2, hk.1⟩))) hg hat)
                      have n1_ := Aside0.mk (Kd.R_after (ok := (fun k_ => some k_ ≠ (.slice Ao25 t109.length co25 : Value).ownBlock)) (by exact upR (Kd.R_mono HO_117002.out (fun _ hk => ⟨hk.2, hk.1⟩))) hg hat)
                      have n2_ := Aside0.mk (blk_grown (g := gb116) (o := .cells #[.int .i64 t108, .slice Ao25 t109.length co25, .slice Ao26 t112.length co26] 29 (0, 0)) (by exact upK BK116.out) hg (Kd.R_ne HO119.out BK116.out (by decide)))
                      have n3_ := Aside0.mk (hb)
                      have n4_ := Aside0.mk (ho)
                      clear HO_117001
                      clear HO_117002
                      clear BK116
                      clear HB
                      clear HO119
                      have HO_117001 := n0_
                      have HO_117002 := n1_
                      have BK116 := n2_
                      have HB := n3_
                      have HO122 := n4_
                      clear n0_ n1_ n2_ n3_ n4_
                      clear ho hb hg hat
                      refine hK.out _ _ ⟨(blk_cell BK116.out 0).trans rfl, (blk_cell BK116.out 1).trans rfl, (blk_cell BK116.out 2).trans rfl⟩ (fun hHeld => ?_)
                      clear hK K
                      refine norm_ (a' := ?_) ?_ ?_
                      rotate_left
                      ·show Act.put _ (some 76) _ = _
                       simp only [Act.put, List.setIfInBounds_toArray, List.set_cons_zero, List.set_cons_succ, i64_w, i32_w]
                       rfl
                      exact norm_ (by rfl) (hJ2_5 (v118, v121) _ ⟨hHeld, (by exact upR HO122.out), (by exact upR (Kd.R_mono HO_117001.out (fun _ hk => ⟨hk.2, hk.1⟩))), (by exact upR (Kd.R_mono HO_117002.out (fun _ hk => ⟨hk.2, hk.1⟩))), (by exact upK BK116.out), (by exact upB HB.out)⟩)
                     ·skip
                      refine Kd.R_lit_step Kd.string _ 9 ?hg (N := 77) ?hd (xs := ([] : List ByteArray)) (inner := []) (ok := fun _ => True) (okp := fun _ => True) ?hr ?hp (fun _ hk => hk) trivial (Below.refl _ _) (Nat.le_refl _) (by simp) ?_; (case hd => rfl); (case hg => rfl); (case hr => first | (go_simp; done) | (go_simp; rfl)); (case hp => exact (Reps.none _ _))
                      intro v124 w41 ho42 hb hg_ hnew_
                      clear hg_ hnew_
                      (first | rw [← Ny123.out] at ho42 | (simp only [Int.reduceToNat] at ho42; rw [← Ny123.out] at ho42))
                      have n0_ := Aside0.mk (Kd.R_elder' (by exact upR HO_117001.out) (Kd.R_base ho42) hb)
                      have n1_ := Aside0.mk (Kd.R_elder' (by exact upR HO_117002.out) (Kd.R_base ho42) hb)
                      have n2_ := Aside0.mk (Kd.R_elder' (by exact upR HO119.out) (Kd.R_base ho42) hb)
                      have n3_ := Aside0.mk (Kd.R_lower (Kd.R_new' (Kd.R_new' (Kd.R_new' ho42 (Kd.R_lt (by exact upR HO_117001.out))) (Kd.R_lt (by exact upR HO_117002.out))) (Kd.R_lt (by exact upR HO119.out))) (below_size (by exact upB HB.out)))
                      have n4_ := Aside0.mk (blk_below (g := gb116) (o := .cells #[.int .i64 t108, .slice Ao25 t109.length co25, .slice Ao26 t112.length co26] 29 (0, 0)) (by exact upK BK116.out) hb)
                      have n5_ := Aside0.mk (below_step (by exact upB HB.out) hb)
                      clear HO_117001
                      clear HO_117002
                      clear HO119
                      clear BK116
                      clear HB
                      have HO_117001 := n0_
                      have HO_117002 := n1_
                      have HO119 := n2_
                      have HO125 := n3_
                      have BK116 := n4_
                      have HB := n5_
                      clear n0_ n1_ n2_ n3_ n4_ n5_
                      clear hb ho42
                      refine hK.out _ _ ⟨(blk_cell BK116.out 0).trans rfl, (blk_cell BK116.out 1).trans rfl, (blk_cell BK116.out 2).trans rfl⟩ (fun hHeld => ?_)
                      clear hK K
                      refine norm_ (a' := ?_) ?_ ?_
                      rotate_left
                      ·show Act.put _ (some 77) _ = _
                       simp only [Act.put, List.setIfInBounds_toArray, List.set_cons_zero, List.set_cons_succ, i64_w, i32_w]
                       rfl
                      exact norm_ (by rfl) (hJ2_6 (v118, v124) _ ⟨hHeld, (by exact upR (Kd.R_mono HO119.out (fun _ hk => ⟨hk.2, ⟨hk.1.1, hk.1.2⟩⟩))), (by exact upR (Kd.R_mono HO125.out (fun _ hk => ⟨hk.2, ⟨hk.1.1.2, hk.1.2⟩⟩))), (by exact upR (Kd.R_mono HO_117001.out (fun _ hk => ⟨hk.1.1, ⟨hk.2, hk.1.2⟩⟩))), (by exact upR (Kd.R_mono HO_117002.out (fun _ hk => ⟨hk.1.1, ⟨hk.2, hk.1.2⟩⟩))), (by exact upK BK116.out), (by exact upB HB.out)⟩)
                     ·skip
                      refine box_step ?hg (N := 20) ?hd (cs := #[.int .i64 0, .slice none 0 0, .slice none 0 0]) (t := 29) ?hr ?_; (case hd => rfl); (case hg => rfl); (case hr => first | (go_simp; done) | (go_simp; rfl))
                      intro gb129 hg w41 hbox hb
                      have n0_ := Aside0.mk (Kd.R_below (by exact upR HO_117001.out) hb)
                      have n1_ := Aside0.mk (Kd.R_below (by exact upR HO_117002.out) hb)
                      have n2_ := Aside0.mk (Kd.R_below (by exact upR HO119.out) hb)
                      have n3_ := Aside0.mk (blk_below (g := gb116) (o := .cells #[.int .i64 t108, .slice Ao25 t109.length co25, .slice Ao26 t112.length co26] 29 (0, 0)) (by exact upK BK116.out) hb)
                      have n4_ := Aside0.mk (below_step (by exact upB HB.out) hb)
                      have n5_ := Aside0.mk (hbox)
                      have n6_ := Aside0.mk ((by rw [hg]; exact (below_size (by exact upB HB.out)) : w.heap.size ≤ gb129))
                      have n7_ := Aside0.mk ((by rw [hg]; exact (below_size (by exact upB HB.out)) : w.heap.size ≤ gb129))
                      have n8_ := Aside0.mk ((by rw [hg]; exact Nat.ne_of_lt (blk_lt (g := gb116) (o := .cells #[.int .i64 t108, .slice Ao25 t109.length co25, .slice Ao26 t112.length co26] 29 (0, 0)) (by exact upK BK116.out)) : gb116 ≠ gb129))
                      have n9_ := Aside0.mk ((by rw [hg]; exact Nat.ne_of_gt (blk_lt (g := gb116) (o := .cells #[.int .i64 t108, .slice Ao25 t109.length co25, .slice Ao26 t112.length co26] 29 (0, 0)) (by exact upK BK116.out)) : gb129 ≠ gb116))
                      clear HO_117001
                      clear HO_117002
                      clear HO119
                      clear BK116
                      clear HB
                      have HO_117001 := n0_
                      have HO_117002 := n1_
                      have HO119 := n2_
                      have BK116 := n3_
                      have HB := n4_
                      have BK129 := n5_
                      have GW129 := n6_
                      have GE129 := n7_
                      have NB116_129 := n8_
                      have NB129_116 := n9_
                      clear n0_ n1_ n2_ n3_ n4_ n5_ n6_ n7_ n8_ n9_
                      clear hb hbox hg
                      refine hK.out _ _ ⟨(blk_cell BK116.out 0).trans rfl, (blk_cell BK116.out 1).trans rfl, (blk_cell BK116.out 2).trans rfl⟩ (fun hHeld => ?_)
                      clear hK K
                      refine norm_ (a' := ?_) ?_ ?_
                      rotate_left
                      ·show Act.put _ (some 20) _ = _
                       simp only [Act.put, List.setIfInBounds_toArray, List.set_cons_zero, List.set_cons_succ, i64_w, i32_w]
                       rfl
                      exact norm_ (by rfl) (hJ2_11 (v118, gb129) _ ⟨hHeld, (by exact upR HO119.out), (by exact upR HO_117001.out), (by exact upR HO_117002.out), (by exact upK BK116.out), (by exact upK BK129.out), GW129.out, GE129.out, NB116_129.out, NB129_116.out, (by exact upB HB.out)⟩)
                   ·skip
                    rintro ⟨v124, gb129⟩ w41 ⟨hS_, h0_, h1_, h2_, h3_, h4_, h5_, h6_, h7_, h8_, h9_⟩
                    have n0_ : Aside0 (Kd.R Kd.string 9 w41 w.heap.size (fun k_ => some k_ ≠ (.slice Ao25 t109.length co25 : Value).ownBlock ∧ some k_ ≠ (.slice Ao26 t112.length co26 : Value).ownBlock) v124 y123) := ⟨h0_⟩
                    have n1_ : Aside0 (Kd.R Kd.string 9 w41 w.heap.size (fun k_ => some k_ ≠ (v124 : Value).ownBlock ∧ some k_ ≠ (.slice Ao26 t112.length co26 : Value).ownBlock) (.slice Ao25 t109.length co25) t109) := ⟨h1_⟩
                    have n2_ : Aside0 (Kd.R Kd.string 9 w41 w.heap.size (fun k_ => some k_ ≠ (v124 : Value).ownBlock ∧ some k_ ≠ (.slice Ao25 t109.length co25 : Value).ownBlock) (.slice Ao26 t112.length co26) t112) := ⟨h2_⟩
                    have n3_ : Aside0 (w41.heap[gb116]? = some (.cells #[.int .i64 t108, .slice Ao25 t109.length co25, .slice Ao26 t112.length co26] 29 (0, 0))) := ⟨h3_⟩
                    have n4_ : Aside0 (w41.heap[gb129]? = some (.cells #[.int .i64 0, .slice none 0 0, .slice none 0 0] 29 (0, 0))) := ⟨h4_⟩
                    have n5_ : Aside0 (w.heap.size ≤ gb129) := ⟨h5_⟩
                    have n6_ : Aside0 (w.heap.size ≤ gb129) := ⟨h6_⟩
                    have n7_ : Aside0 (gb116 ≠ gb129) := ⟨h7_⟩
                    have n8_ : Aside0 (gb129 ≠ gb116) := ⟨h8_⟩
                    have n9_ : Aside0 (Below w.heap.size w w41) := ⟨h9_⟩
                    clear HO_117001
                    clear HO_117002
                    clear BK116
                    clear HB
                    clear h0_ h1_ h2_ h3_ h4_ h5_ h6_ h7_ h8_ h9_
                    have HO125 := n0_
                    have HO_117001 := n1_
                    have HO_117002 := n2_
                    have BK116 := n3_
                    have BK129 := n4_
                    have GW129 := n5_
                    have GE129 := n6_
                    have NB116_129 := n7_
                    have NB129_116 := n8_
                    have HB := n9_
                    clear n0_ n1_ n2_ n3_ n4_ n5_ n6_ n7_ n8_ n9_
                    have hHeld : w41.cell? ⟨gb116, 0, none⟩ = some (.int .i64 t108) ∧ w41.cell? ⟨gb116, 1, none⟩ = some (.slice Ao25 t109.length co25) ∧ w41.cell? ⟨gb116, 2, none⟩ = some (.slice Ao26 t112.length co26) := hS_
                    refine norm_ (a' := ?_) ?_ ?_
                    rotate_left
                    ·simp only [putAll, Act.put, List.setIfInBounds_toArray, List.set_cons_zero, List.set_cons_succ]
                     rfl
                    refine one_ (i := 2) (N := some 73) #[true, true, true, true, true, false, true, true, true, false, false, true, false] rfl rfl (one_of HT_.out (by kernel_rfl)) (by decide) (fun K hK => ?_)
                    refine Kd.R_lit_step Kd.string _ 9 ?hg (N := 73) ?hd (xs := ([] : List ByteArray)) (inner := []) (ok := fun _ => True) (okp := fun _ => True) ?hr ?hp (fun _ hk => hk) trivial (Below.refl _ _) (Nat.le_refl _) (by simp) ?_; (case hd => rfl); (case hg => rfl); (case hr => first | (go_simp; done) | (go_simp; rfl)); (case hp => exact (Reps.none _ _))
                    intro v118 w42 ho43 hb hg_ hnew_
                    clear hg_ hnew_
                    (first | rw [← Ny117.out] at ho43 | (simp only [Int.reduceToNat] at ho43; rw [← Ny117.out] at ho43))
                    have n0_ := Aside0.mk (Kd.R_elder' (by exact upR HO_117001.out) (Kd.R_base ho43) hb)
                    have n1_ := Aside0.mk (Kd.R_elder' (by exact upR HO_117002.out) (Kd.R_base ho43) hb)
                    have n2_ := Aside0.mk (Kd.R_elder' (by exact upR HO125.out) (Kd.R_base ho43) hb)
                    have n3_ := Aside0.mk (Kd.R_lower (Kd.R_new' (Kd.R_new' (Kd.R_new' ho43 (Kd.R_lt (by exact upR HO_117001.out))) (Kd.R_lt (by exact upR HO_117002.out))) (Kd.R_lt (by exact upR HO125.out))) (below_size (by exact upB HB.out)))
                    have n4_ := Aside0.mk (blk_below (g := gb116) (o := .cells #[.int .i64 t108, .slice Ao25 t109.length co25, .slice Ao26 t112.length co26] 29 (0, 0)) (by exact upK BK116.out) hb)
                    have n5_ := Aside0.mk (blk_below (g := gb129) (o := .cells #[.int .i64 0, .slice none 0 0, .slice none 0 0] 29 (0, 0)) (by exact upK BK129.out) hb)
                    have n6_ := Aside0.mk (below_step (by exact upB HB.out) hb)
                    clear HO_117001
                    clear HO_117002
                    clear HO125
                    clear BK116
                    clear BK129
                    clear HB
                    have HO_117001 := n0_
                    have HO_117002 := n1_
                    have HO125 := n2_
                    have HO119 := n3_
                    have BK116 := n4_
                    have BK129 := n5_
                    have HB := n6_
                    clear n0_ n1_ n2_ n3_ n4_ n5_ n6_
                    clear hb ho43
                    refine hK.out _ _ ⟨(blk_cell BK116.out 0).trans rfl, (blk_cell BK116.out 1).trans rfl, (blk_cell BK116.out 2).trans rfl⟩ (fun hHeld => ?_)
                    clear hK K
                    refine norm_ (a' := ?_) ?_ ?_
                    rotate_left
                    ·show Act.put _ (some 73) _ = _
                     simp only [Act.put, List.setIfInBounds_toArray, List.set_cons_zero, List.set_cons_succ, i64_w, i32_w]
                     rfl
                    exact norm_ (by rfl) (hJ2_6_11 (v118, v124, gb129) _ ⟨hHeld, (by exact upR (Kd.R_mono HO119.out (fun _ hk => ⟨hk.2, ⟨hk.1.1.2, hk.1.2⟩⟩))), (by exact upR (Kd.R_mono HO125.out (fun _ hk => ⟨hk.2, ⟨hk.1.1, hk.1.2⟩⟩))), (by exact upR (Kd.R_mono HO_117001.out (fun _ hk => ⟨hk.2, ⟨hk.1.1, hk.1.2⟩⟩))), (by exact upR (Kd.R_mono HO_117002.out (fun _ hk => ⟨hk.2, ⟨hk.1.1, hk.1.2⟩⟩))), (by exact upK BK116.out), (by exact upK BK129.out), GW129.out, GE129.out, NB116_129.out, NB129_116.out, (by exact upB HB.out)⟩)
                  ·skip
                   rintro ⟨v118, gb129⟩ w41 ⟨hS_, h0_, h1_, h2_, h3_, h4_, h5_, h6_, h7_, h8_, h9_⟩
                   have n0_ : Aside0 (Kd.R Kd.string 9 w41 w.heap.size (fun k_ => some k_ ≠ (.slice Ao25 t109.length co25 : Value).ownBlock ∧ some k_ ≠ (.slice Ao26 t112.length co26 : Value).ownBlock) v118 y117) := ⟨h0_⟩
                   have n1_ : Aside0 (Kd.R Kd.string 9 w41 w.heap.size (fun k_ => some k_ ≠ (v118 : Value).ownBlock ∧ some k_ ≠ (.slice Ao26 t112.length co26 : Value).ownBlock) (.slice Ao25 t109.length co25) t109) := ⟨h1_⟩
                   have n2_ : Aside0 (Kd.R Kd.string 9 w41 w.heap.size (fun k_ => some k_ ≠ (v118 : Value).ownBlock ∧ some k_ ≠ (.slice Ao25 t109.length co25 : Value).ownBlock) (.slice Ao26 t112.length co26) t112) := ⟨h2_⟩
                   have n3_ : Aside0 (w41.heap[gb116]? = some (.cells #[.int .i64 t108, .slice Ao25 t109.length co25, .slice Ao26 t112.length co26] 29 (0, 0))) := ⟨h3_⟩
                   have n4_ : Aside0 (w41.heap[gb129]? = some (.cells #[.int .i64 0, .slice none 0 0, .slice none 0 0] 29 (0, 0))) := ⟨h4_⟩
                   have n5_ : Aside0 (w.heap.size ≤ gb129) := ⟨h5_⟩
                   have n6_ : Aside0 (w.heap.size ≤ gb129) := ⟨h6_⟩
                   have n7_ : Aside0 (gb116 ≠ gb129) := ⟨h7_⟩
                   have n8_ : Aside0 (gb129 ≠ gb116) := ⟨h8_⟩
                   have n9_ : Aside0 (Below w.heap.size w w41) := ⟨h9_⟩
                   clear HO_117001
                   clear HO_117002
                   clear BK116
                   clear HB
                   clear h0_ h1_ h2_ h3_ h4_ h5_ h6_ h7_ h8_ h9_
                   have HO119 := n0_
                   have HO_117001 := n1_
                   have HO_117002 := n2_
                   have BK116 := n3_
                   have BK129 := n4_
                   have GW129 := n5_
                   have GE129 := n6_
                   have NB116_129 := n7_
                   have NB129_116 := n8_
                   have HB := n9_
                   clear n0_ n1_ n2_ n3_ n4_ n5_ n6_ n7_ n8_ n9_
                   have hHeld : w41.cell? ⟨gb116, 0, none⟩ = some (.int .i64 t108) ∧ w41.cell? ⟨gb116, 1, none⟩ = some (.slice Ao25 t109.length co25) ∧ w41.cell? ⟨gb116, 2, none⟩ = some (.slice Ao26 t112.length co26) := hS_
                   refine norm_ (a' := ?_) ?_ ?_
                   rotate_left
                   ·simp only [putAll, Act.put, List.setIfInBounds_toArray, List.set_cons_zero, List.set_cons_succ]
                    rfl
                   refine two_ (i := 5) (j := 6) (Ni := some 76) (Nj := some 77) #[true, true, true, true, true, true, false, true, true, false, false, true, false] #[true, true, true, true, true, false, true, true, true, false, false, true, false] rfl rfl rfl rfl (two_of HT_.out (by kernel_rfl)) (by decide) (by decide) (fun K hK => ?_) (fun K hK => ?_)
                   ·skip
                    refine Kd.R_append_rows_step Kd.string (w0 := w) w.heap.size (by rfl) (.tmp 73) (.tmp 75) 27 9 (.string ⟨#[]⟩) 16 rfl Tryd.underlying27 info9 rfl (by decide) (by omega) v118 y117 t109 _ _ _ (fun k_ => some k_ ≠ (.slice Ao25 t109.length co25 : Value).ownBlock ∧ some k_ ≠ (.slice Ao26 t112.length co26 : Value).ownBlock) (fun _ => False) rfl rfl ?aO ?aR (fun _ _ h => h) (fun _ h => h.elim) ?aF ?aB ?aS ?aL ?_
                    (case aR => exact upC ((Kd.R_reads' HO_117001.out).2.2))
                    (case aB => exact (by exact upB HB.out))
                    (case aF => exact (fun k_ hk => ⟨Kd.fresh' (Kd.R_lt (by exact upR HO_117001.out)) k_ hk, Kd.fresh' (Kd.R_lt (by exact upR HO_117002.out)) k_ hk⟩))
                    (case aO => exact (by exact upR HO119.out))
                    (case aS => exact (below_size (by exact upB HB.out)))
                    (case aL => have := LMc33.out; omega)
                    intro v121 w42 ho hb hg hat
                    rw [← Ny120.out] at ho
                    have n0_ := Aside0.mk (Kd.R_after (ok := (fun k_ => some k_ ≠ (.slice Ao26 t112.length co26 : Value).ownBlock)) (by exact upR (Kd.R_mono HO_117001.out (fun _ hk => ⟨hk.2, hk.1⟩))) hg hat)
                    have n1_ := Aside0.mk (Kd.R_after (ok := (fun k_ => some k_ ≠ (.slice Ao25 t109.length co25 : Value).ownBlock)) (by exact upR (Kd.R_mono HO_117002.out (fun _ hk => ⟨hk.2, hk.1⟩))) hg hat)
                    have n2_ := Aside0.mk (blk_grown (g := gb116) (o := .cells #[.int .i64 t108, .slice Ao25 t109.length co25, .slice Ao26 t112.length co26] 29 (0, 0)) (by exact upK BK116.out) hg (Kd.R_ne HO119.out BK116.out (by decide)))
                    have n3_ := Aside0.mk (blk_grown (g := gb129) (o := .cells #[.int .i64 0, .slice none 0 0, .slice none 0 0] 29 (0, 0)) (by exact upK BK129.out) hg (Kd.R_ne HO119.out BK129.out (by decide)))
                    have n4_ := Aside0.mk (hb)
                    have n5_ := Aside0.mk (ho)
                    clear HO_117001
                    clear HO_117002
                    clear BK116
                    clear BK129
                    clear HB
                    clear HO119
                    have HO_117001 := n0_
                    have HO_117002 := n1_
                    have BK116 := n2_
                    have BK129 := n3_
                    have HB := n4_
                    have HO122 := n5_
                    clear n0_ n1_ n2_ n3_ n4_ n5_
                    clear ho hb hg hat
                    refine hK.out _ _ ⟨(blk_cell BK116.out 0).trans rfl, (blk_cell BK116.out 1).trans rfl, (blk_cell BK116.out 2).trans rfl⟩ (fun hHeld => ?_)
                    clear hK K
                    refine norm_ (a' := ?_) ?_ ?_
                    rotate_left
                    ·show Act.put _ (some 76) _ = _
                     simp only [Act.put, List.setIfInBounds_toArray, List.set_cons_zero, List.set_cons_succ, i64_w, i32_w]
                     rfl
                    exact norm_ (by rfl) (hJ2_5_11 (v118, v121, gb129) _ ⟨hHeld, (by exact upR HO122.out), (by exact upR (Kd.R_mono HO_117001.out (fun _ hk => ⟨hk.2, hk.1⟩))), (by exact upR (Kd.R_mono HO_117002.out (fun _ hk => ⟨hk.2, hk.1⟩))), (by exact upK BK116.out), (by exact upK BK129.out), GW129.out, GE129.out, NB116_129.out, NB129_116.out, (by exact upB HB.out)⟩)
                   ·skip
                    refine Kd.R_lit_step Kd.string _ 9 ?hg (N := 77) ?hd (xs := ([] : List ByteArray)) (inner := []) (ok := fun _ => True) (okp := fun _ => True) ?hr ?hp (fun _ hk => hk) trivial (Below.refl _ _) (Nat.le_refl _) (by simp) ?_; (case hd => rfl); (case hg => rfl); (case hr => first | (go_simp; done) | (go_simp; rfl)); (case hp => exact (Reps.none _ _))
                    intro v124 w42 ho43 hb hg_ hnew_
                    clear hg_ hnew_
                    (first | rw [← Ny123.out] at ho43 | (simp only [Int.reduceToNat] at ho43; rw [← Ny123.out] at ho43))
                    have n0_ := Aside0.mk (Kd.R_elder' (by exact upR HO_117001.out) (Kd.R_base ho43) hb)
                    have n1_ := Aside0.mk (Kd.R_elder' (by exact upR HO_117002.out) (Kd.R_base ho43) hb)
                    have n2_ := Aside0.mk (Kd.R_elder' (by exact upR HO119.out) (Kd.R_base ho43) hb)
                    have n3_ := Aside0.mk (Kd.R_lower (Kd.R_new' (Kd.R_new' (Kd.R_new' ho43 (Kd.R_lt (by exact upR HO_117001.out))) (Kd.R_lt (by exact upR HO_117002.out))) (Kd.R_lt (by exact upR HO119.out))) (below_size (by exact upB HB.out)))
                    have n4_ := Aside0.mk (blk_below (g := gb116) (o := .cells #[.int .i64 t108, .slice Ao25 t109.length co25, .slice Ao26 t112.length co26] 29 (0, 0)) (by exact upK BK116.out) hb)
                    have n5_ := Aside0.mk (blk_below (g := gb129) (o := .cells #[.int .i64 0, .slice none 0 0, .slice none 0 0] 29 (0, 0)) (by exact upK BK129.out) hb)
                    have n6_ := Aside0.mk (below_step (by exact upB HB.out) hb)
                    clear HO_117001
                    clear HO_117002
                    clear HO119
                    clear BK116
                    clear BK129
                    clear HB
                    have HO_117001 := n0_
                    have HO_117002 := n1_
                    have HO119 := n2_
                    have HO125 := n3_
                    have BK116 := n4_
                    have BK129 := n5_
                    have HB := n6_
                    clear n0_ n1_ n2_ n3_ n4_ n5_ n6_
                    clear hb ho43
                    refine hK.out _ _ ⟨(blk_cell BK116.out 0).trans rfl, (blk_cell BK116.out 1).trans rfl, (blk_cell BK116.out 2).trans rfl⟩ (fun hHeld => ?_)
                    clear hK K
                    refine norm_ (a' := ?_) ?_ ?_
                    rotate_left
                    ·show Act.put _ (some 77) _ = _
                     simp only [Act.put, List.setIfInBounds_toArray, List.set_cons_zero, List.set_cons_succ, i64_w, i32_w]
                     rfl
                    exact norm_ (by rfl) (hJ2_6_11 (v118, v124, gb129) _ ⟨hHeld, (by exact upR (Kd.R_mono HO119.out (fun _ hk => ⟨hk.2, ⟨hk.1.1, hk.1.2⟩⟩))), (by exact upR (Kd.R_mono HO125.out (fun _ hk => ⟨hk.2, ⟨hk.1.1.2, hk.1.2⟩⟩))), (by exact upR (Kd.R_mono HO_117001.out (fun _ hk => ⟨hk.1.1, ⟨hk.2, hk.1.2⟩⟩))), (by exact upR (Kd.R_mono HO_117002.out (fun _ hk => ⟨hk.1.1, ⟨hk.2, hk.1.2⟩⟩))), (by exact upK BK116.out), (by exact upK BK129.out), GW129.out, GE129.out, NB116_129.out, NB129_116.out, (by exact upB HB.out)⟩)
                 ·skip
                  rintro ⟨v118, v124⟩ w42 ⟨hS_, h0_, h1_, h2_, h3_, h4_, h5_⟩
                  have n0_ : Aside0 (Kd.R Kd.string 9 w42 w.heap.size (fun k_ => some k_ ≠ (v124 : Value).ownBlock ∧ some k_ ≠ (.slice Ao25 t109.length co25 : Value).ownBlock ∧ some k_ ≠ (.slice Ao26 t112.length co26 : Value).ownBlock) v118 y117) := ⟨h0_⟩
                  have n1_ : Aside0 (Kd.R Kd.string 9 w42 w.heap.size (fun k_ => some k_ ≠ (v118 : Value).ownBlock ∧ some k_ ≠ (.slice Ao25 t109.length co25 : Value).ownBlock ∧ some k_ ≠ (.slice Ao26 t112.length co26 : Value).ownBlock) v124 y123) := ⟨h1_⟩
                  have n2_ : Aside0 (Kd.R Kd.string 9 w42 w.heap.size (fun k_ => some k_ ≠ (v118 : Value).ownBlock ∧ some k_ ≠ (v124 : Value).ownBlock ∧ some k_ ≠ (.slice Ao26 t112.length co26 : Value).ownBlock) (.slice Ao25 t109.length co25) t109) := ⟨h2_⟩
                  have n3_ : Aside0 (Kd.R Kd.string 9 w42 w.heap.size (fun k_ => some k_ ≠ (v118 : Value).ownBlock ∧ some k_ ≠ (v124 : Value).ownBlock ∧ some k_ ≠ (.slice Ao25 t109.length co25 : Value).ownBlock) (.slice Ao26 t112.length co26) t112) := ⟨h3_⟩
                  have n4_ : Aside0 (w42.heap[gb116]? = some (.cells #[.int .i64 t108, .slice Ao25 t109.length co25, .slice Ao26 t112.length co26] 29 (0, 0))) := ⟨h4_⟩
                  have n5_ : Aside0 (Below w.heap.size w w42) := ⟨h5_⟩
                  clear HO_117001
                  clear HO_117002
                  clear BK116
                  clear HB
                  clear h0_ h1_ h2_ h3_ h4_ h5_
                  have HO119 := n0_
                  have HO125 := n1_
                  have HO_117001 := n2_
                  have HO_117002 := n3_
                  have BK116 := n4_
                  have HB := n5_
                  clear n0_ n1_ n2_ n3_ n4_ n5_
                  have hHeld : w42.cell? ⟨gb116, 0, none⟩ = some (.int .i64 t108) ∧ w42.cell? ⟨gb116, 1, none⟩ = some (.slice Ao25 t109.length co25) ∧ w42.cell? ⟨gb116, 2, none⟩ = some (.slice Ao26 t112.length co26) := hS_
                  refine norm_ (a' := ?_) ?_ ?_
                  rotate_left
                  ·simp only [putAll, Act.put, List.setIfInBounds_toArray, List.set_cons_zero, List.set_cons_succ]
                   rfl
                  refine two_ (i := 5) (j := 11) (Ni := some 76) (Nj := some 20) #[true, true, true, true, true, true, true, true, true, false, false, false, false] #[true, true, true, true, true, false, true, true, true, false, false, true, false] rfl rfl rfl rfl (two_of HT_.out (by kernel_rfl)) (by decide) (by decide) (fun K hK => ?_) (fun K hK => ?_)
                  ·skip
                   refine Kd.R_append_rows_step Kd.string (w0 := w) w.heap.size (by rfl) (.tmp 73) (.tmp 75) 27 9 (.string ⟨#[]⟩) 16 rfl Tryd.underlying27 info9 rfl (by decide) (by omega) v118 y117 t109 _ _ _ (fun k_ => some k_ ≠ (.slice Ao25 t109.length co25 : Value).ownBlock ∧ some k_ ≠ (.slice Ao26 t112.length co26 : Value).ownBlock ∧ some k_ ≠ (v124 : Value).ownBlock) (fun _ => False) rfl rfl ?aO ?aR (fun _ _ h => h) (fun _ h => h.elim) ?aF ?aB ?aS ?aL ?_
                   (case aR => exact upC ((Kd.R_reads' HO_117001.out).2.2))
                   (case aB => exact (by exact upB HB.out))
                   (case aF => exact (fun k_ hk => ⟨Kd.fresh' (Kd.R_lt (by exact upR HO_117001.out)) k_ hk, Kd.fresh' (Kd.R_lt (by exact upR HO_117002.out)) k_ hk, Kd.fresh' (Kd.R_lt (by exact upR HO125.out)) k_ hk⟩))
                   (case aO => exact (by exact upR (Kd.R_mono HO119.out (fun _ hk => ⟨hk.2.1, ⟨hk.2.2, hk.1⟩⟩))))
                   (case aS => exact (below_size (by exact upB HB.out)))
                   (case aL => have := LMc33.out; omega)
                   intro v121 w43 ho hb hg hat
                   rw [← Ny120.out] at ho
                   have n0_ := Aside0.mk (Kd.R_after (ok := (fun k_ => some k_ ≠ (.slice Ao26 t112.length co26 : Value).ownBlock ∧ some k_ ≠ (v124 : Value).ownBlock)) (by exact upR (Kd.R_mono HO_117001.out (fun _ hk => ⟨⟨hk.2.2, hk.2.1⟩, hk.1⟩))) hg hat)
                   have n1_ := Aside0.mk (Kd.R_after (ok := (fun k_ => some k_ ≠ (.slice Ao25 t109.length co25 : Value).ownBlock ∧ some k_ ≠ (v124 : Value).ownBlock)) (by exact upR (Kd.R_mono HO_117002.out (fun _ hk => ⟨⟨hk.2.2, hk.2.1⟩, hk.1⟩))) hg hat)
                   have n2_ := Aside0.mk (blk_grown (g := gb116) (o := .cells #[.int .i64 t108, .slice Ao25 t109.length co25, .slice Ao26 t112.length co26] 29 (0, 0)) (by exact upK BK116.out) hg (Kd.R_ne HO119.out BK116.out (by decide)))
                   have n3_ := Aside0.mk (Kd.R_after (ok := (fun k_ => some k_ ≠ (.slice Ao25 t109.length co25 : Value).ownBlock ∧ some k_ ≠ (.slice Ao26 t112.length co26 : Value).ownBlock)) (by exact upR (Kd.R_mono HO125.out (fun _ hk => ⟨⟨hk.2.1, hk.2.2⟩, hk.1⟩))) hg hat)
                   have n4_ := Aside0.mk (hb)
                   have n5_ := Aside0.mk (ho)
                   clear HO_117001
                   clear HO_117002
                   clear BK116
                   clear HO125
                   clear HB
                   clear HO119
                   have HO_117001 := n0_
                   have HO_117002 := n1_
                   have BK116 := n2_
                   have HO125 := n3_
                   have HB := n4_
                   have HO122 := n5_
                   clear n0_ n1_ n2_ n3_ n4_ n5_
                   clear ho hb hg hat
                   refine hK.out _ _ ⟨(blk_cell BK116.out 0).trans rfl, (blk_cell BK116.out 1).trans rfl, (blk_cell BK116.out 2).trans rfl⟩ (fun hHeld => ?_)
                   clear hK K
                   refine norm_ (a' := ?_) ?_ ?_
                   rotate_left
                   ·show Act.put _ (some 76) _ = _
                    simp only [Act.put, List.setIfInBounds_toArray, List.set_cons_zero, List.set_cons_succ, i64_w, i32_w]
                    rfl
                   exact norm_ (by rfl) (hJ2_5_6 (v118, v121, v124) _ ⟨hHeld, (by exact upR (Kd.R_mono HO122.out (fun _ hk => ⟨hk.2.2, ⟨hk.1, hk.2.1⟩⟩))), (by exact upR (Kd.R_mono HO125.out (fun _ hk => ⟨hk.2, ⟨hk.1.1, hk.1.2⟩⟩))), (by exact upR (Kd.R_mono HO_117001.out (fun _ hk => ⟨hk.2, ⟨hk.1.2, hk.1.1⟩⟩))), (by exact upR (Kd.R_mono HO_117002.out (fun _ hk => ⟨hk.2, ⟨hk.1.2, hk.1.1⟩⟩))), (by exact upK BK116.out), (by exact upB HB.out)⟩)
                  ·skip
                   refine box_step ?hg (N := 20) ?hd (cs := #[.int .i64 0, .slice none 0 0, .slice none 0 0]) (t := 29) ?hr ?_; (case hd => rfl); (case hg => rfl); (case hr => first | (go_simp; done) | (go_simp; rfl))
                   intro gb129 hg w43 hbox hb
                   have n0_ := Aside0.mk (Kd.R_below (by exact upR HO_117001.out) hb)
                   have n1_ := Aside0.mk (Kd.R_below (by exact upR HO_117002.out) hb)
                   have n2_ := Aside0.mk (Kd.R_below (by exact upR HO119.out) hb)
                   have n3_ := Aside0.mk (Kd.R_below (by exact upR HO125.out) hb)
                   have n4_ := Aside0.mk (blk_below (g := gb116) (o := .cells #[.int .i64 t108, .slice Ao25 t109.length co25, .slice Ao26 t112.length co26] 29 (0, 0)) (by exact upK BK116.out) hb)
                   have n5_ := Aside0.mk (below_step (by exact upB HB.out) hb)
                   have n6_ := Aside0.mk (hbox)
                   have n7_ := Aside0.mk ((by rw [hg]; exact (below_size (by exact upB HB.out)) : w.heap.size ≤ gb129))
                   have n8_ := Aside0.mk ((by rw [hg]; exact (below_size (by exact upB HB.out)) : w.heap.size ≤ gb129))
                   have n9_ := Aside0.mk ((by rw [hg]; exact Nat.ne_of_lt (blk_lt (g := gb116) (o := .cells #[.int .i64 t108, .slice Ao25 t109.length co25, .slice Ao26 t112.length co26] 29 (0, 0)) (by exact upK BK116.out)) : gb116 ≠ gb129))
                   have n10_ := Aside0.mk ((by rw [hg]; exact Nat.ne_of_gt (blk_lt (g := gb116) (o := .cells #[.int .i64 t108, .slice Ao25 t109.length co25, .slice Ao26 t112.length co26] 29 (0, 0)) (by exact upK BK116.out)) : gb129 ≠ gb116))
                   clear HO_117001
                   clear HO_117002
                   clear HO119
                   clear HO125
                   clear BK116
                   clear HB
                   have HO_117001 := n0_
                   have HO_117002 := n1_
                   have HO119 := n2_
                   have HO125 := n3_
                   have BK116 := n4_
                   have HB := n5_
                   have BK129 := n6_
                   have GW129 := n7_
                   have GE129 := n8_
                   have NB116_129 := n9_
                   have NB129_116 := n10_
                   clear n0_ n1_ n2_ n3_ n4_ n5_ n6_ n7_ n8_ n9_ n10_
                   clear hb hbox hg
                   refine hK.out _ _ ⟨(blk_cell BK116.out 0).trans rfl, (blk_cell BK116.out 1).trans rfl, (blk_cell BK116.out 2).trans rfl⟩ (fun hHeld => ?_)
                   clear hK K
                   refine norm_ (a' := ?_) ?_ ?_
                   rotate_left
                   ·show Act.put _ (some 20) _ = _
                    simp only [Act.put, List.setIfInBounds_toArray, List.set_cons_zero, List.set_cons_succ, i64_w, i32_w]
                    rfl
                   exact norm_ (by rfl) (hJ2_6_11 (v118, v124, gb129) _ ⟨hHeld, (by exact upR HO119.out), (by exact upR HO125.out), (by exact upR HO_117001.out), (by exact upR HO_117002.out), (by exact upK BK116.out), (by exact upK BK129.out), GW129.out, GE129.out, NB116_129.out, NB129_116.out, (by exact upB HB.out)⟩)
                ·skip
                 rintro ⟨v118, v121⟩ w41 ⟨hS_, h0_, h1_, h2_, h3_, h4_⟩
                 have n0_ : Aside0 (Kd.R Kd.string 9 w41 w.heap.size (fun k_ => some k_ ≠ (.slice Ao25 t109.length co25 : Value).ownBlock ∧ some k_ ≠ (.slice Ao26 t112.length co26 : Value).ownBlock) v121 y120) := ⟨h0_⟩
                 have n1_ : Aside0 (Kd.R Kd.string 9 w41 w.heap.size (fun k_ => some k_ ≠ (v121 : Value).ownBlock ∧ some k_ ≠ (.slice Ao26 t112.length co26 : Value).ownBlock) (.slice Ao25 t109.length co25) t109) := ⟨h1_⟩
                 have n2_ : Aside0 (Kd.R Kd.string 9 w41 w.heap.size (fun k_ => some k_ ≠ (v121 : Value).ownBlock ∧ some k_ ≠ (.slice Ao25 t109.length co25 : Value).ownBlock) (.slice Ao26 t112.length co26) t112) := ⟨h2_⟩
                 have n3_ : Aside0 (w41.heap[gb116]? = some (.cells #[.int .i64 t108, .slice Ao25 t109.length co25, .slice Ao26 t112.length co26] 29 (0, 0))) := ⟨h3_⟩
                 have n4_ : Aside0 (Below w.heap.size w w41) := ⟨h4_⟩
                 clear HO_117001
                 clear HO_117002
                 clear BK116
                 clear HB
                 clear h0_ h1_ h2_ h3_ h4_
                 have HO122 := n0_
                 have HO_117001 := n1_
                 have HO_117002 := n2_
                 have BK116 := n3_
                 have HB := n4_
                 clear n0_ n1_ n2_ n3_ n4_
                 have hHeld : w41.cell? ⟨gb116, 0, none⟩ = some (.int .i64 t108) ∧ w41.cell? ⟨gb116, 1, none⟩ = some (.slice Ao25 t109.length co25) ∧ w41.cell? ⟨gb116, 2, none⟩ = some (.slice Ao26 t112.length co26) := hS_
                 refine norm_ (a' := ?_) ?_ ?_
                 rotate_left
                 ·simp only [putAll, Act.put, List.setIfInBounds_toArray, List.set_cons_zero, List.set_cons_succ]
                  rfl
                 refine two_ (i := 6) (j := 11) (Ni := some 77) (Nj := some 20) #[true, true, true, true, true, true, true, true, true, false, false, false, false] #[true, true, true, true, true, true, false, true, true, false, false, true, false] rfl rfl rfl rfl (two_of HT_.out (by kernel_rfl)) (by decide) (by decide) (fun K hK => ?_) (fun K hK => ?_)
                 ·skip
                  refine Kd.R_lit_step Kd.string _ 9 ?hg (N := 77) ?hd (xs := ([] : List ByteArray)) (inner := []) (ok := fun _ => True) (okp := fun _ => True) ?hr ?hp (fun _ hk => hk) trivial (Below.refl _ _) (Nat.le_refl _) (by simp) ?_; (case hd => rfl); (case hg => rfl); (case hr => first | (go_simp; done) | (go_simp; rfl)); (case hp => exact (Reps.none _ _))
                  intro v124 w42 ho43 hb hg_ hnew_
                  clear hg_ hnew_
                  (first | rw [← Ny123.out] at ho43 | (simp only [Int.reduceToNat] at ho43; rw [← Ny123.out] at ho43))
                  have n0_ := Aside0.mk (Kd.R_elder' (by exact upR HO_117001.out) (Kd.R_base ho43) hb)
                  have n1_ := Aside0.mk (Kd.R_elder' (by exact upR HO_117002.out) (Kd.R_base ho43) hb)
                  have n2_ := Aside0.mk (Kd.R_elder' (by exact upR HO122.out) (Kd.R_base ho43) hb)
                  have n3_ := Aside0.mk (Kd.R_lower (Kd.R_new' (Kd.R_new' (Kd.R_new' ho43 (Kd.R_lt (by exact upR HO_117001.out))) (Kd.R_lt (by exact upR HO_117002.out))) (Kd.R_lt (by exact upR HO122.out))) (below_size (by exact upB HB.out)))
                  have n4_ := Aside0.mk (blk_below (g := gb116) (o := .cells #[.int .i64 t108, .slice Ao25 t109.length co25, .slice Ao26 t112.length co26] 29 (0, 0)) (by exact upK BK116.out) hb)
                  have n5_ := Aside0.mk (below_step (by exact upB HB.out) hb)
                  clear HO_117001
                  clear HO_117002
                  clear HO122
                  clear BK116
                  clear HB
                  have HO_117001 := n0_
                  have HO_117002 := n1_
                  have HO122 := n2_
                  have HO125 := n3_
                  have BK116 := n4_
                  have HB := n5_
                  clear n0_ n1_ n2_ n3_ n4_ n5_
                  clear hb ho43
                  refine hK.out _ _ ⟨(blk_cell BK116.out 0).trans rfl, (blk_cell BK116.out 1).trans rfl, (blk_cell BK116.out 2).trans rfl⟩ (fun hHeld => ?_)
                  clear hK K
                  refine norm_ (a' := ?_) ?_ ?_
                  rotate_left
                  ·show Act.put _ (some 77) _ = _
                   simp only [Act.put, List.setIfInBounds_toArray, List.set_cons_zero, List.set_cons_succ, i64_w, i32_w]
                   rfl
                  exact norm_ (by rfl) (hJ2_5_6 (v118, v121, v124) _ ⟨hHeld, (by exact upR (Kd.R_mono HO122.out (fun _ hk => ⟨hk.2, ⟨hk.1.1, hk.1.2⟩⟩))), (by exact upR (Kd.R_mono HO125.out (fun _ hk => ⟨hk.2, ⟨hk.1.1.2, hk.1.2⟩⟩))), (by exact upR (Kd.R_mono HO_117001.out (fun _ hk => ⟨hk.1.1, ⟨hk.2, hk.1.2⟩⟩))), (by exact upR (Kd.R_mono HO_117002.out (fun _ hk => ⟨hk.1.1, ⟨hk.2, hk.1.2⟩⟩))), (by exact upK BK116.out), (by exact upB HB.out)⟩)
                 ·skip
                  refine box_step ?hg (N := 20) ?hd (cs := #[.int .i64 0, .slice none 0 0, .slice none 0 0]) (t := 29) ?hr ?_; (case hd => rfl); (case hg => rfl); (case hr => first | (go_simp; done) | (go_simp; rfl))
                  intro gb129 hg w42 hbox hb
                  have n0_ := Aside0.mk (Kd.R_below (by exact upR HO_117001.out) hb)
                  have n1_ := Aside0.mk (Kd.R_below (by exact upR HO_117002.out) hb)
                  have n2_ := Aside0.mk (Kd.R_below (by exact upR HO122.out) hb)
                  have n3_ := Aside0.mk (blk_below (g := gb116) (o := .cells #[.int .i64 t108, .slice Ao25 t109.length co25, .slice Ao26 t112.length co26] 29 (0, 0)) (by exact upK BK116.out) hb)
                  have n4_ := Aside0.mk (below_step (by exact upB HB.out) hb)
                  have n5_ := Aside0.mk (hbox)
                  have n6_ := Aside0.mk ((by rw [hg]; exact (below_size (by exact upB HB.out)) : w.heap.size ≤ gb129))
                  have n7_ := Aside0.mk ((by rw [hg]; exact (below_size (by exact upB HB.out)) : w.heap.size ≤ gb129))
                  have n8_ := Aside0.mk ((by rw [hg]; exact Nat.ne_of_lt (blk_lt (g := gb116) (o := .cells #[.int .i64 t108, .slice Ao25 t109.length co25, .slice Ao26 t112.length co26] 29 (0, 0)) (by exact upK BK116.out)) : gb116 ≠ gb129))
                  have n9_ := Aside0.mk ((by rw [hg]; exact Nat.ne_of_gt (blk_lt (g := gb116) (o := .cells #[.int .i64 t108, .slice Ao25 t109.length co25, .slice Ao26 t112.length co26] 29 (0, 0)) (by exact upK BK116.out)) : gb129 ≠ gb116))
                  clear HO_117001
                  clear HO_117002
                  clear HO122
                  clear BK116
                  clear HB
                  have HO_117001 := n0_
                  have HO_117002 := n1_
                  have HO122 := n2_
                  have BK116 := n3_
                  have HB := n4_
                  have BK129 := n5_
                  have GW129 := n6_
                  have GE129 := n7_
                  have NB116_129 := n8_
                  have NB129_116 := n9_
                  clear n0_ n1_ n2_ n3_ n4_ n5_ n6_ n7_ n8_ n9_
                  clear hb hbox hg
                  refine hK.out _ _ ⟨(blk_cell BK116.out 0).trans rfl, (blk_cell BK116.out 1).trans rfl, (blk_cell BK116.out 2).trans rfl⟩ (fun hHeld => ?_)
                  clear hK K
                  refine norm_ (a' := ?_) ?_ ?_
                  rotate_left
                  ·show Act.put _ (some 20) _ = _
                   simp only [Act.put, List.setIfInBounds_toArray, List.set_cons_zero, List.set_cons_succ, i64_w, i32_w]
                   rfl
                  exact norm_ (by rfl) (hJ2_5_11 (v118, v121, gb129) _ ⟨hHeld, (by exact upR HO122.out), (by exact upR HO_117001.out), (by exact upR HO_117002.out), (by exact upK BK116.out), (by exact upK BK129.out), GW129.out, GE129.out, NB116_129.out, NB129_116.out, (by exact upB HB.out)⟩)
               ·skip
                rintro ⟨v118, v124, gb129⟩ w43 ⟨hS_, h0_, h1_, h2_, h3_, h4_, h5_, h6_, h7_, h8_, h9_, h10_⟩
                have n0_ : Aside0 (Kd.R Kd.string 9 w43 w.heap.size (fun k_ => some k_ ≠ (v124 : Value).ownBlock ∧ some k_ ≠ (.slice Ao25 t109.length co25 : Value).ownBlock ∧ some k_ ≠ (.slice Ao26 t112.length co26 : Value).ownBlock) v118 y117) := ⟨h0_⟩
                have n1_ : Aside0 (Kd.R Kd.string 9 w43 w.heap.size (fun k_ => some k_ ≠ (v118 : Value).ownBlock ∧ some k_ ≠ (.slice Ao25 t109.length co25 : Value).ownBlock ∧ some k_ ≠ (.slice Ao26 t112.length co26 : Value).ownBlock) v124 y123) := ⟨h1_⟩
                have n2_ : Aside0 (Kd.R Kd.string 9 w43 w.heap.size (fun k_ => some k_ ≠ (v118 : Value).ownBlock ∧ some k_ ≠ (v124 : Value).ownBlock ∧ some k_ ≠ (.slice Ao26 t112.length co26 : Value).ownBlock) (.slice Ao25 t109.length co25) t109) := ⟨h2_⟩
                have n3_ : Aside0 (Kd.R Kd.string 9 w43 w.heap.size (fun k_ => some k_ ≠ (v118 : Value).ownBlock ∧ some k_ ≠ (v124 : Value).ownBlock ∧ some k_ ≠ (.slice Ao25 t109.length co25 : Value).ownBlock) (.slice Ao26 t112.length co26) t112) := ⟨h3_⟩
                have n4_ : Aside0 (w43.heap[gb116]? = some (.cells #[.int .i64 t108, .slice Ao25 t109.length co25, .slice Ao26 t112.length co26] 29 (0, 0))) := ⟨h4_⟩
                have n5_ : Aside0 (w43.heap[gb129]? = some (.cells #[.int .i64 0, .slice none 0 0, .slice none 0 0] 29 (0, 0))) := ⟨h5_⟩
                have n6_ : Aside0 (w.heap.size ≤ gb129) := ⟨h6_⟩
                have n7_ : Aside0 (w.heap.size ≤ gb129) := ⟨h7_⟩
                have n8_ : Aside0 (gb116 ≠ gb129) := ⟨h8_⟩
                have n9_ : Aside0 (gb129 ≠ gb116) := ⟨h9_⟩
                have n10_ : Aside0 (Below w.heap.size w w43) := ⟨h10_⟩
                clear HO_117001
                clear HO_117002
                clear BK116
                clear HB
                clear h0_ h1_ h2_ h3_ h4_ h5_ h6_ h7_ h8_ h9_ h10_
                have HO119 := n0_
                have HO125 := n1_
                have HO_117001 := n2_
                have HO_117002 := n3_
                have BK116 := n4_
                have BK129 := n5_
                have GW129 := n6_
                have GE129 := n7_
                have NB116_129 := n8_
                have NB129_116 := n9_
                have HB := n10_
                clear n0_ n1_ n2_ n3_ n4_ n5_ n6_ n7_ n8_ n9_ n10_
                have hHeld : w43.cell? ⟨gb116, 0, none⟩ = some (.int .i64 t108) ∧ w43.cell? ⟨gb116, 1, none⟩ = some (.slice Ao25 t109.length co25) ∧ w43.cell? ⟨gb116, 2, none⟩ = some (.slice Ao26 t112.length co26) := hS_
                refine norm_ (a' := ?_) ?_ ?_
                rotate_left
                ·simp only [putAll, Act.put, List.setIfInBounds_toArray, List.set_cons_zero, List.set_cons_succ]
                 rfl
                refine one_ (i := 5) (N := some 76) #[true, true, true, true, true, true, true, true, true, false, false, true, false] rfl rfl (one_of HT_.out (by kernel_rfl)) (by decide) (fun K hK => ?_)
                refine Kd.R_append_rows_step Kd.string (w0 := w) w.heap.size (by rfl) (.tmp 73) (.tmp 75) 27 9 (.string ⟨#[]⟩) 16 rfl Tryd.underlying27 info9 rfl (by decide) (by omega) v118 y117 t109 _ _ _ (fun k_ => some k_ ≠ (.slice Ao25 t109.length co25 : Value).ownBlock ∧ some k_ ≠ (.slice Ao26 t112.length co26 : Value).ownBlock ∧ some k_ ≠ (v124 : Value).ownBlock) (fun _ => False) rfl rfl ?aO ?aR (fun _ _ h => h) (fun _ h => h.elim) ?aF ?aB ?aS ?aL ?_
                (case aR => exact upC ((Kd.R_reads' HO_117001.out).2.2))
                (case aB => exact (by exact upB HB.out))
                (case aF => exact (fun k_ hk => ⟨Kd.fresh' (Kd.R_lt (by exact upR HO_117001.out)) k_ hk, Kd.fresh' (Kd.R_lt (by exact upR HO_117002.out)) k_ hk, Kd.fresh' (Kd.R_lt (by exact upR HO125.out)) k_ hk⟩))
                (case aO => exact (by exact upR (Kd.R_mono HO119.out (fun _ hk => ⟨hk.2.1, ⟨hk.2.2, hk.1⟩⟩))))
                (case aS => exact (below_size (by exact upB HB.out)))
                (case aL => have := LMc33.out; omega)
                intro v121 w44 ho hb hg hat
                rw [← Ny120.out] at ho
                have n0_ := Aside0.mk (Kd.R_after (ok := (fun k_ => some k_ ≠ (.slice Ao26 t112.length co26 : Value).ownBlock ∧ some k_ ≠ (v124 : Value).ownBlock)) (by exact upR (Kd.R_mono HO_117001.out (fun _ hk => ⟨⟨hk.2.2, hk.2.1⟩, hk.1⟩))) hg hat)
                have n1_ := Aside0.mk (Kd.R_after (ok := (fun k_ => some k_ ≠ (.slice Ao25 t109.length co25 : Value).ownBlock ∧ some k_ ≠ (v124 : Value).ownBlock)) (by exact upR (Kd.R_mono HO_117002.out (fun _ hk => ⟨⟨hk.2.2, hk.2.1⟩, hk.1⟩))) hg hat)
                have n2_ := Aside0.mk (blk_grown (g := gb116) (o := .cells #[.int .i64 t108, .slice Ao25 t109.length co25, .slice Ao26 t112.length co26] 29 (0, 0)) (by exact upK BK116.out) hg (Kd.R_ne HO119.out BK116.out (by decide)))
                have n3_ := Aside0.mk (Kd.R_after (ok := (fun k_ => some k_ ≠ (.slice Ao25 t109.length co25 : Value).ownBlock ∧ some k_ ≠ (.slice Ao26 t112.length co26 : Value).ownBlock)) (by exact upR (Kd.R_mono HO125.out (fun _ hk => ⟨⟨hk.2.1, hk.2.2⟩, hk.1⟩))) hg hat)
                have n4_ := Aside0.mk (blk_grown (g := gb129) (o := .cells #[.int .i64 0, .slice none 0 0, .slice none 0 0] 29 (0, 0)) (by exact upK BK129.out) hg (Kd.R_ne HO119.out BK129.out (by decide)))
                have n5_ := Aside0.mk (hb)
                have n6_ := Aside0.mk (ho)
                clear HO_117001
                clear HO_117002
                clear BK116
                clear HO125
                clear BK129
                clear HB
                clear HO119
                have HO_117001 := n0_
                have HO_117002 := n1_
                have BK116 := n2_
                have HO125 := n3_
                have BK129 := n4_
                have HB := n5_
                have HO122 := n6_
                clear n0_ n1_ n2_ n3_ n4_ n5_ n6_
                clear ho hb hg hat
                refine hK.out _ _ ⟨(blk_cell BK116.out 0).trans rfl, (blk_cell BK116.out 1).trans rfl, (blk_cell BK116.out 2).trans rfl⟩ (fun hHeld => ?_)
                clear hK K
                refine norm_ (a' := ?_) ?_ ?_
                rotate_left
                ·show Act.put _ (some 76) _ = _
                 simp only [Act.put, List.setIfInBounds_toArray, List.set_cons_zero, List.set_cons_succ, i64_w, i32_w]
                 rfl
                exact norm_ (by rfl) (hJ2_5_6_11 (v118, v121, v124, gb129) _ ⟨hHeld, (by exact upR (Kd.R_mono HO122.out (fun _ hk => ⟨hk.2.2, ⟨hk.1, hk.2.1⟩⟩))), (by exact upR (Kd.R_mono HO125.out (fun _ hk => ⟨hk.2, ⟨hk.1.1, hk.1.2⟩⟩))), (by exact upR (Kd.R_mono HO_117001.out (fun _ hk => ⟨hk.2, ⟨hk.1.2, hk.1.1⟩⟩))), (by exact upR (Kd.R_mono HO_117002.out (fun _ hk => ⟨hk.2, ⟨hk.1.2, hk.1.1⟩⟩))), (by exact upK BK116.out), (by exact upK BK129.out), GW129.out, GE129.out, NB116_129.out, NB129_116.out, (by exact upB HB.out)⟩)
              ·skip
               rintro ⟨v118, v121, gb129⟩ w42 ⟨hS_, h0_, h1_, h2_, h3_, h4_, h5_, h6_, h7_, h8_, h9_⟩
               have n0_ : Aside0 (Kd.R Kd.string 9 w42 w.heap.size (fun k_ => some k_ ≠ (.slice Ao25 t109.length co25 : Value).ownBlock ∧ some k_ ≠ (.slice Ao26 t112.length co26 : Value).ownBlock) v121 y120) := ⟨h0_⟩
               have n1_ : Aside0 (Kd.R Kd.string 9 w42 w.heap.size (fun k_ => some k_ ≠ (v121 : Value).ownBlock ∧ some k_ ≠ (.slice Ao26 t112.length co26 : Value).ownBlock) (.slice Ao25 t109.length co25) t109) := ⟨h1_⟩
               have n2_ : Aside0 (Kd.R Kd.string 9 w42 w.heap.size (fun k_ => some k_ ≠ (v121 : Value).ownBlock ∧ some k_ ≠ (.slice Ao25 t109.length co25 : Value).ownBlock) (.slice Ao26 t112.length co26) t112) := ⟨h2_⟩
               have n3_ : Aside0 (w42.heap[gb116]? = some (.cells #[.int .i64 t108, .slice Ao25 t109.length co25, .slice Ao26 t112.length co26] 29 (0, 0))) := ⟨h3_⟩
               have n4_ : Aside0 (w42.heap[gb129]? = some (.cells #[.int .i64 0, .slice none 0 0, .slice none 0 0] 29 (0, 0))) := ⟨h4_⟩
               have n5_ : Aside0 (w.heap.size ≤ gb129) := ⟨h5_⟩
               have n6_ : Aside0 (w.heap.size ≤ gb129) := ⟨h6_⟩
               have n7_ : Aside0 (gb116 ≠ gb129) := ⟨h7_⟩
               have n8_ : Aside0 (gb129 ≠ gb116) := ⟨h8_⟩
               have n9_ : Aside0 (Below w.heap.size w w42) := ⟨h9_⟩
               clear HO_117001
               clear HO_117002
               clear BK116
               clear HB
               clear h0_ h1_ h2_ h3_ h4_ h5_ h6_ h7_ h8_ h9_
               have HO122 := n0_
               have HO_117001 := n1_
               have HO_117002 := n2_
               have BK116 := n3_
               have BK129 := n4_
               have GW129 := n5_
               have GE129 := n6_
               have NB116_129 := n7_
               have NB129_116 := n8_
               have HB := n9_
               clear n0_ n1_ n2_ n3_ n4_ n5_ n6_ n7_ n8_ n9_
               have hHeld : w42.cell? ⟨gb116, 0, none⟩ = some (.int .i64 t108) ∧ w42.cell? ⟨gb116, 1, none⟩ = some (.slice Ao25 t109.length co25) ∧ w42.cell? ⟨gb116, 2, none⟩ = some (.slice Ao26 t112.length co26) := hS_
               refine norm_ (a' := ?_) ?_ ?_
               rotate_left
               ·simp only [putAll, Act.put, List.setIfInBounds_toArray, List.set_cons_zero, List.set_cons_succ]
                rfl
               refine one_ (i := 6) (N := some 77) #[true, true, true, true, true, true, true, true, true, false, false, true, false] rfl rfl (one_of HT_.out (by kernel_rfl)) (by decide) (fun K hK => ?_)
               refine Kd.R_lit_step Kd.string _ 9 ?hg (N := 77) ?hd (xs := ([] : List ByteArray)) (inner := []) (ok := fun _ => True) (okp := fun _ => True) ?hr ?hp (fun _ hk => hk) trivial (Below.refl _ _) (Nat.le_refl _) (by simp) ?_; (case hd => rfl); (case hg => rfl); (case hr => first | (go_simp; done) | (go_simp; rfl)); (case hp => exact (Reps.none _ _))
               intro v124 w43 ho44 hb hg_ hnew_
               clear hg_ hnew_
               (first | rw [← Ny123.out] at ho44 | (simp only [Int.reduceToNat] at ho44; rw [← Ny123.out] at ho44))
               have n0_ := Aside0.mk (Kd.R_elder' (by exact upR HO_117001.out) (Kd.R_base ho44) hb)
               have n1_ := Aside0.mk (Kd.R_elder' (by exact upR HO_117002.out) (Kd.R_base ho44) hb)
               have n2_ := Aside0.mk (Kd.R_elder' (by exact upR HO122.out) (Kd.R_base ho44) hb)
               have n3_ := Aside0.mk (Kd.R_lower (Kd.R_new' (Kd.R_new' (Kd.R_new' ho44 (Kd.R_lt (by exact upR HO_117001.out))) (Kd.R_lt (by exact upR HO_117002.out))) (Kd.R_lt (by exact upR HO122.out))) (below_size (by exact upB HB.out)))
               have n4_ := Aside0.mk (blk_below (g := gb116) (o := .cells #[.int .i64 t108, .slice Ao25 t109.length co25, .slice Ao26 t112.length co26] 29 (0, 0)) (by exact upK BK116.out) hb)
               have n5_ := Aside0.mk (blk_below (g := gb129) (o := .cells #[.int .i64 0, .slice none 0 0, .slice none 0 0] 29 (0, 0)) (by exact upK BK129.out) hb)
               have n6_ := Aside0.mk (below_step (by exact upB HB.out) hb)
               clear HO_117001
               clear HO_117002
               clear HO122
               clear BK116
               clear BK129
               clear HB
               have HO_117001 := n0_
               have HO_117002 := n1_
               have HO122 := n2_
               have HO125 := n3_
               have BK116 := n4_
               have BK129 := n5_
               have HB := n6_
               clear n0_ n1_ n2_ n3_ n4_ n5_ n6_
               clear hb ho44
               refine hK.out _ _ ⟨(blk_cell BK116.out 0).trans rfl, (blk_cell BK116.out 1).trans rfl, (blk_cell BK116.out 2).trans rfl⟩ (fun hHeld => ?_)
               clear hK K
               refine norm_ (a' := ?_) ?_ ?_
               rotate_left
               ·show Act.put _ (some 77) _ = _
                simp only [Act.put, List.setIfInBounds_toArray, List.set_cons_zero, List.set_cons_succ, i64_w, i32_w]
                rfl
               exact norm_ (by rfl) (hJ2_5_6_11 (v118, v121, v124, gb129) _ ⟨hHeld, (by exact upR (Kd.R_mono HO122.out (fun _ hk => ⟨hk.2, ⟨hk.1.1, hk.1.2⟩⟩))), (by exact upR (Kd.R_mono HO125.out (fun _ hk => ⟨hk.2, ⟨hk.1.1.2, hk.1.2⟩⟩))), (by exact upR (Kd.R_mono HO_117001.out (fun _ hk => ⟨hk.1.1, ⟨hk.2, hk.1.2⟩⟩))), (by exact upR (Kd.R_mono HO_117002.out (fun _ hk => ⟨hk.1.1, ⟨hk.2, hk.1.2⟩⟩))), (by exact upK BK116.out), (by exact upK BK129.out), GW129.out, GE129.out, NB116_129.out, NB129_116.out, (by exact upB HB.out)⟩)
             ·skip
              rintro ⟨v118, v121, v124⟩ w43 ⟨hS_, h0_, h1_, h2_, h3_, h4_, h5_⟩
              have n0_ : Aside0 (Kd.R Kd.string 9 w43 w.heap.size (fun k_ => some k_ ≠ (v124 : Value).ownBlock ∧ some k_ ≠ (.slice Ao25 t109.length co25 : Value).ownBlock ∧ some k_ ≠ (.slice Ao26 t112.length co26 : Value).ownBlock) v121 y120) := ⟨h0_⟩
              have n1_ : Aside0 (Kd.R Kd.string 9 w43 w.heap.size (fun k_ => some k_ ≠ (v121 : Value).ownBlock ∧ some k_ ≠ (.slice Ao25 t109.length co25 : Value).ownBlock ∧ some k_ ≠ (.slice Ao26 t112.length co26 : Value).ownBlock) v124 y123) := ⟨h1_⟩
              have n2_ : Aside0 (Kd.R Kd.string 9 w43 w.heap.size (fun k_ => some k_ ≠ (v121 : Value).ownBlock ∧ some k_ ≠ (v124 : Value).ownBlock ∧ some k_ ≠ (.slice Ao26 t112.length co26 : Value).ownBlock) (.slice Ao25 t109.length co25) t109) := ⟨h2_⟩
              have n3_ : Aside0 (Kd.R Kd.string 9 w43 w.heap.size (fun k_ => some k_ ≠ (v121 : Value).ownBlock ∧ some k_ ≠ (v124 : Value).ownBlock ∧ some k_ ≠ (.slice Ao25 t109.length co25 : Value).ownBlock) (.slice Ao26 t112.length co26) t112) := ⟨h3_⟩
              have n4_ : Aside0 (w43.heap[gb116]? = some (.cells #[.int .i64 t108, .slice Ao25 t109.length co25, .slice Ao26 t112.length co26] 29 (0, 0))) := ⟨h4_⟩
              have n5_ : Aside0 (Below w.heap.size w w43) := ⟨h5_⟩
              clear HO_117001
              clear HO_117002
              clear BK116
              clear HB
              clear h0_ h1_ h2_ h3_ h4_ h5_
              have HO122 := n0_
              have HO125 := n1_
              have HO_117001 := n2_
              have HO_117002 := n3_
              have BK116 := n4_
              have HB := n5_
              clear n0_ n1_ n2_ n3_ n4_ n5_
              have hHeld : w43.cell? ⟨gb116, 0, none⟩ = some (.int .i64 t108) ∧ w43.cell? ⟨gb116, 1, none⟩ = some (.slice Ao25 t109.length co25) ∧ w43.cell? ⟨gb116, 2, none⟩ = some (.slice Ao26 t112.length co26) := hS_
              refine norm_ (a' := ?_) ?_ ?_
              rotate_left
              ·simp only [putAll, Act.put, List.setIfInBounds_toArray, List.set_cons_zero, List.set_cons_succ]
               rfl
              refine two_ (i := 9) (j := 11) (Ni := some 80) (Nj := some 20) #[true, true, true, true, true, true, true, true, true, true, false, false, false] #[true, true, true, true, true, true, true, true, true, false, false, true, false] rfl rfl rfl rfl (two_of HT_.out (by kernel_rfl)) (by decide) (by decide) (fun K hK => ?_) (fun K hK => ?_)
              ·skip
               refine Kd.R_append_rows_step Kd.string (w0 := w) w.heap.size (by rfl) (.tmp 77) (.tmp 79) 27 9 (.string ⟨#[]⟩) 16 rfl Tryd.underlying27 info9 rfl (by decide) (by omega) v124 y123 t112 _ _ _ (fun k_ => some k_ ≠ (.slice Ao25 t109.length co25 : Value).ownBlock ∧ some k_ ≠ (.slice Ao26 t112.length co26 : Value).ownBlock ∧ some k_ ≠ (v121 : Value).ownBlock) (fun _ => False) rfl rfl ?aO ?aR (fun _ _ h => h) (fun _ h => h.elim) ?aF ?aB ?aS ?aL ?_
               (case aR => exact upC ((Kd.R_reads' HO_117002.out).2.2))
               (case aB => exact (by exact upB HB.out))
               (case aF => exact (fun k_ hk => ⟨Kd.fresh' (Kd.R_lt (by exact upR HO_117001.out)) k_ hk, Kd.fresh' (Kd.R_lt (by exact upR HO_117002.out)) k_ hk, Kd.fresh' (Kd.R_lt (by exact upR HO122.out)) k_ hk⟩))
               (case aO => exact (by exact upR (Kd.R_mono HO125.out (fun _ hk => ⟨hk.2.1, ⟨hk.2.2, hk.1⟩⟩))))
               (case aS => exact (below_size (by exact upB HB.out)))
               (case aL => have := LMc34.out; omega)
               intro v127 w44 ho hb hg hat
               rw [← Ny126.out] at ho
               have n0_ := Aside0.mk (Kd.R_after (ok := (fun k_ => some k_ ≠ (.slice Ao26 t112.length co26 : Value).ownBlock ∧ some k_ ≠ (v121 : Value).ownBlock)) (by exact upR (Kd.R_mono HO_117001.out (fun _ hk => ⟨⟨hk.2.2, hk.1⟩, hk.2.1⟩))) hg hat)
               have n1_ := Aside0.mk (Kd.R_after (ok := (fun k_ => some k_ ≠ (.slice Ao25 t109.length co25 : Value).ownBlock ∧ some k_ ≠ (v121 : Value).ownBlock)) (by exact upR (Kd.R_mono HO_117002.out (fun _ hk => ⟨⟨hk.2.2, hk.1⟩, hk.2.1⟩))) hg hat)
               have n2_ := Aside0.mk (blk_grown (g := gb116) (o := .cells #[.int .i64 t108, .slice Ao25 t109.length co25, .slice Ao26 t112.length co26] 29 (0, 0)) (by exact upK BK116.out) hg (Kd.R_ne HO125.out BK116.out (by decide)))
               have n3_ := Aside0.mk (Kd.R_after (ok := (fun k_ => some k_ ≠ (.slice Ao25 t109.length co25 : Value).ownBlock ∧ some k_ ≠ (.slice Ao26 t112.length co26 : Value).ownBlock)) (by exact upR (Kd.R_mono HO122.out (fun _ hk => ⟨⟨hk.2.1, hk.2.2⟩, hk.1⟩))) hg hat)
               have n4_ := Aside0.mk (hb)
               have n5_ := Aside0.mk (ho)
               clear HO_117001
               clear HO_117002
               clear BK116
               clear HO122
               clear HB
               clear HO125
               have HO_117001 := n0_
               have HO_117002 := n1_
               have BK116 := n2_
               have HO122 := n3_
               have HB := n4_
               have HO128 := n5_
               clear n0_ n1_ n2_ n3_ n4_ n5_
               clear ho hb hg hat
               obtain ⟨Ao45, co45, eo45⟩ := Kd.R_slice HO128.out
               (first | subst eo45 | (injection eo45 with f1_ f2_ f3_; have f4_ := f1_.symm; have f5_ := f3_.symm; clear f1_ f2_ f3_; subst f4_; subst f5_))
               obtain ⟨Ao46, co46, eo46⟩ := Kd.R_slice HO122.out
               (first | subst eo46 | (injection eo46 with f1_ f2_ f3_; have f4_ := f1_.symm; have f5_ := f3_.symm; clear f1_ f2_ f3_; subst f4_; subst f5_))
               refine hK.out _ _ ⟨(blk_cell BK116.out 0).trans rfl, (blk_cell BK116.out 1).trans rfl, (blk_cell BK116.out 2).trans rfl⟩ (fun hHeld => ?_)
               clear hK K
               refine norm_ (a' := ?_) ?_ ?_
               rotate_left
               ·show Act.put _ (some 80) _ = _
                simp only [Act.put, List.setIfInBounds_toArray, List.set_cons_zero, List.set_cons_succ, i64_w, i32_w]
                rfl
               refine pure_ (i := 10) (N := some 81) (v := ?_) (a' := ?_) #[true, true, true, true, true, true, true, true, true, true, true, false, false] rfl rfl (any_of HT_.out (by kernel_rfl)) (fun _ _ _ h => h) (Or.inl ⟨by rfl, ?_⟩) ?_ ?_
               rotate_left
               ·intro w'
                go_simp
                with_reducible rfl
               rotate_left
               ·simp only [Act.put, List.setIfInBounds_toArray, List.set_cons_zero, List.set_cons_succ, i64_w, i32_w]
                rfl
               exact norm_ (by rfl) (hJ2_5_6_9 (v118, .slice Ao46 y120.length co46, v124, .slice Ao45 y126.length co45) _ ⟨hHeld, (by exact upR (Kd.R_mono HO122.out (fun _ hk => ⟨hk.2, ⟨hk.1.1, hk.1.2⟩⟩))), (by exact upR (Kd.R_mono HO128.out (fun _ hk => ⟨hk.2.2, ⟨hk.1, hk.2.1⟩⟩))), (by exact upR (Kd.R_mono HO_117001.out (fun _ hk => ⟨hk.1.2, ⟨hk.2, hk.1.1⟩⟩))), (by exact upR (Kd.R_mono HO_117002.out (fun _ hk => ⟨hk.1.2, ⟨hk.2, hk.1.1⟩⟩))), (by exact upK BK116.out), (by exact upB HB.out)⟩)
              ·skip
               refine box_step ?hg (N := 20) ?hd (cs := #[.int .i64 0, .slice none 0 0, .slice none 0 0]) (t := 29) ?hr ?_; (case hd => rfl); (case hg => rfl); (case hr => first | (go_simp; done) | (go_simp; rfl))
               intro gb129 hg w44 hbox hb
               have n0_ := Aside0.mk (Kd.R_below (by exact upR HO_117001.out) hb)
               have n1_ := Aside0.mk (Kd.R_below (by exact upR HO_117002.out) hb)
               have n2_ := Aside0.mk (Kd.R_below (by exact upR HO122.out) hb)
               have n3_ := Aside0.mk (Kd.R_below (by exact upR HO125.out) hb)
               have n4_ := Aside0.mk (blk_below (g := gb116) (o := .cells #[.int .i64 t108, .slice Ao25 t109.length co25, .slice Ao26 t112.length co26] 29 (0, 0)) (by exact upK BK116.out) hb)
               have n5_ := Aside0.mk (below_step (by exact upB HB.out) hb)
               have n6_ := Aside0.mk (hbox)
               have n7_ := Aside0.mk ((by rw [hg]; exact (below_size (by exact upB HB.out)) : w.heap.size ≤ gb129))
               have n8_ := Aside0.mk ((by rw [hg]; exact (below_size (by exact upB HB.out)) : w.heap.size ≤ gb129))
               have n9_ := Aside0.mk ((by rw [hg]; exact Nat.ne_of_lt (blk_lt (g := gb116) (o := .cells #[.int .i64 t108, .slice Ao25 t109.length co25, .slice Ao26 t112.length co26] 29 (0, 0)) (by exact upK BK116.out)) : gb116 ≠ gb129))
               have n10_ := Aside0.mk ((by rw [hg]; exact Nat.ne_of_gt (blk_lt (g := gb116) (o := .cells #[.int .i64 t108, .slice Ao25 t109.length co25, .slice Ao26 t112.length co26] 29 (0, 0)) (by exact upK BK116.out)) : gb129 ≠ gb116))
               clear HO_117001
               clear HO_117002
               clear HO122
               clear HO125
               clear BK116
               clear HB
               have HO_117001 := n0_
               have HO_117002 := n1_
               have HO122 := n2_
               have HO125 := n3_
               have BK116 := n4_
               have HB := n5_
               have BK129 := n6_
               have GW129 := n7_
               have GE129 := n8_
               have NB116_129 := n9_
               have NB129_116 := n10_
               clear n0_ n1_ n2_ n3_ n4_ n5_ n6_ n7_ n8_ n9_ n10_
               clear hb hbox hg
               refine hK.out _ _ ⟨(blk_cell BK116.out 0).trans rfl, (blk_cell BK116.out 1).trans rfl, (blk_cell BK116.out 2).trans rfl⟩ (fun hHeld => ?_)
               clear hK K
               refine norm_ (a' := ?_) ?_ ?_
               rotate_left
               ·show Act.put _ (some 20) _ = _
                simp only [Act.put, List.setIfInBounds_toArray, List.set_cons_zero, List.set_cons_succ, i64_w, i32_w]
                rfl
               exact norm_ (by rfl) (hJ2_5_6_11 (v118, v121, v124, gb129) _ ⟨hHeld, (by exact upR HO122.out), (by exact upR HO125.out), (by exact upR HO_117001.out), (by exact upR HO_117002.out), (by exact upK BK116.out), (by exact upK BK129.out), GW129.out, GE129.out, NB116_129.out, NB129_116.out, (by exact upB HB.out)⟩)
            ·skip
             rintro ⟨v118, v121, v124, gb129⟩ w44 ⟨hS_, h0_, h1_, h2_, h3_, h4_, h5_, h6_, h7_, h8_, h9_, h10_⟩
             have n0_ : Aside0 (Kd.R Kd.string 9 w44 w.heap.size (fun k_ => some k_ ≠ (v124 : Value).ownBlock ∧ some k_ ≠ (.slice Ao25 t109.length co25 : Value).ownBlock ∧ some k_ ≠ (.slice Ao26 t112.length co26 : Value).ownBlock) v121 y120) := ⟨h0_⟩
             have n1_ : Aside0 (Kd.R Kd.string 9 w44 w.heap.size (fun k_ => some k_ ≠ (v121 : Value).ownBlock ∧ some k_ ≠ (.slice Ao25 t109.length co25 : Value).ownBlock ∧ some k_ ≠ (.slice Ao26 t112.length co26 : Value).ownBlock) v124 y123) := ⟨h1_⟩
             have n2_ : Aside0 (Kd.R Kd.string 9 w44 w.heap.size (fun k_ => some k_ ≠ (v121 : Value).ownBlock ∧ some k_ ≠ (v124 : Value).ownBlock ∧ some k_ ≠ (.slice Ao26 t112.length co26 : Value).ownBlock) (.slice Ao25 t109.length co25) t109) := ⟨h2_⟩
             have n3_ : Aside0 (Kd.R Kd.string 9 w44 w.heap.size (fun k_ => some k_ ≠ (v121 : Value).ownBlock ∧ some k_ ≠ (v124 : Value).ownBlock ∧ some k_ ≠ (.slice Ao25 t109.length co25 : Value).ownBlock) (.slice Ao26 t112.length co26) t112) := ⟨h3_⟩
             have n4_ : Aside0 (w44.heap[gb116]? = some (.cells #[.int .i64 t108, .slice Ao25 t109.length co25, .slice Ao26 t112.length co26] 29 (0, 0))) := ⟨h4_⟩
             have n5_ : Aside0 (w44.heap[gb129]? = some (.cells #[.int .i64 0, .slice none 0 0, .slice none 0 0] 29 (0, 0))) := ⟨h5_⟩
             have n6_ : Aside0 (w.heap.size ≤ gb129) := ⟨h6_⟩
             have n7_ : Aside0 (w.heap.size ≤ gb129) := ⟨h7_⟩
             have n8_ : Aside0 (gb116 ≠ gb129) := ⟨h8_⟩
             have n9_ : Aside0 (gb129 ≠ gb116) := ⟨h9_⟩
             have n10_ : Aside0 (Below w.heap.size w w44) := ⟨h10_⟩
             clear HO_117001
             clear HO_117002
             clear BK116
             clear HB
             clear h0_ h1_ h2_ h3_ h4_ h5_ h6_ h7_ h8_ h9_ h10_
             have HO122 := n0_
             have HO125 := n1_
             have HO_117001 := n2_
             have HO_117002 := n3_
             have BK116 := n4_
             have BK129 := n5_
             have GW129 := n6_
             have GE129 := n7_
             have NB116_129 := n8_
             have NB129_116 := n9_
             have HB := n10_
             clear n0_ n1_ n2_ n3_ n4_ n5_ n6_ n7_ n8_ n9_ n10_
             have hHeld : w44.cell? ⟨gb116, 0, none⟩ = some (.int .i64 t108) ∧ w44.cell? ⟨gb116, 1, none⟩ = some (.slice Ao25 t109.length co25) ∧ w44.cell? ⟨gb116, 2, none⟩ = some (.slice Ao26 t112.length co26) := hS_
             refine norm_ (a' := ?_) ?_ ?_
             rotate_left
             ·simp only [putAll, Act.put, List.setIfInBounds_toArray, List.set_cons_zero, List.set_cons_succ]
              rfl
             refine one_ (i := 9) (N := some 80) #[true, true, true, true, true, true, true, true, true, true, false, true, false] rfl rfl (one_of HT_.out (by kernel_rfl)) (by decide) (fun K hK => ?_)
             refine Kd.R_append_rows_step Kd.string (w0 := w) w.heap.size (by rfl) (.tmp 77) (.tmp 79) 27 9 (.string ⟨#[]⟩) 16 rfl Tryd.underlying27 info9 rfl (by decide) (by omega) v124 y123 t112 _ _ _ (fun k_ => some k_ ≠ (.slice Ao25 t109.length co25 : Value).ownBlock ∧ some k_ ≠ (.slice Ao26 t112.length co26 : Value).ownBlock ∧ some k_ ≠ (v121 : Value).ownBlock) (fun _ => False) rfl rfl ?aO ?aR (fun _ _ h => h) (fun _ h => h.elim) ?aF ?aB ?aS ?aL ?_
             (case aR => exact upC ((Kd.R_reads' HO_117002.out).2.2))
             (case aB => exact (by exact upB HB.out))
             (case aF => exact (fun k_ hk => ⟨Kd.fresh' (Kd.R_lt (by exact upR HO_117001.out)) k_ hk, Kd.fresh' (Kd.R_lt (by exact upR HO_117002.out)) k_ hk, Kd.fresh' (Kd.R_lt (by exact upR HO122.out)) k_ hk⟩))
             (case aO => exact (by exact upR (Kd.R_mono HO125.out (fun _ hk => ⟨hk.2.1, ⟨hk.2.2, hk.1⟩⟩))))
             (case aS => exact (below_size (by exact upB HB.out)))
             (case aL => have := LMc34.out; omega)
             intro v127 w45 ho hb hg hat
             rw [← Ny126.out] at ho
             have n0_ := Aside0.mk (Kd.R_after (ok := (fun k_ => some k_ ≠ (.slice Ao26 t112.length co26 : Value).ownBlock ∧ some k_ ≠ (v121 : Value).ownBlock)) (by exact upR (Kd.R_mono HO_117001.out (fun _ hk => ⟨⟨hk.2.2, hk.1⟩, hk.2.1⟩))) hg hat)
             have n1_ := Aside0.mk (Kd.R_after (ok := (fun k_ => some k_ ≠ (.slice Ao25 t109.length co25 : Value).ownBlock ∧ some k_ ≠ (v121 : Value).ownBlock)) (by exact upR (Kd.R_mono HO_117002.out (fun _ hk => ⟨⟨hk.2.2, hk.1⟩, hk.2.1⟩))) hg hat)
             have n2_ := Aside0.mk (blk_grown (g := gb116) (o := .cells #[.int .i64 t108, .slice Ao25 t109.length co25, .slice Ao26 t112.length co26] 29 (0, 0)) (by exact upK BK116.out) hg (Kd.R_ne HO125.out BK116.out (by decide)))
             have n3_ := Aside0.mk (Kd.R_after (ok := (fun k_ => some k_ ≠ (.slice Ao25 t109.length co25 : Value).ownBlock ∧ some k_ ≠ (.slice Ao26 t112.length co26 : Value).ownBlock)) (by exact upR (Kd.R_mono HO122.out (fun _ hk => ⟨⟨hk.2.1, hk.2.2⟩, hk.1⟩))) hg hat)
             have n4_ := Aside0.mk (blk_grown (g := gb129) (o := .cells #[.int .i64 0, .slice none 0 0, .slice none 0 0] 29 (0, 0)) (by exact upK BK129.out) hg (Kd.R_ne HO125.out BK129.out (by decide)))
             have n5_ := Aside0.mk (hb)
             have n6_ := Aside0.mk (ho)
             clear HO_117001
             clear HO_117002
             clear BK116
             clear HO122
             clear BK129
             clear HB
             clear HO125
             have HO_117001 := n0_
             have HO_117002 := n1_
             have BK116 := n2_
             have HO122 := n3_
             have BK129 := n4_
             have HB := n5_
             have HO128 := n6_
             clear n0_ n1_ n2_ n3_ n4_ n5_ n6_
             clear ho hb hg hat
             obtain ⟨Ao46, co46, eo46⟩ := Kd.R_slice HO128.out
             (first | subst eo46 | (injection eo46 with f1_ f2_ f3_; have f4_ := f1_.symm; have f5_ := f3_.symm; clear f1_ f2_ f3_; subst f4_; subst f5_))
             obtain ⟨Ao47, co47, eo47⟩ := Kd.R_slice HO122.out
             (first | subst eo47 | (injection eo47 with f1_ f2_ f3_; have f4_ := f1_.symm; have f5_ := f3_.symm; clear f1_ f2_ f3_; subst f4_; subst f5_))
             refine hK.out _ _ ⟨(blk_cell BK116.out 0).trans rfl, (blk_cell BK116.out 1).trans rfl, (blk_cell BK116.out 2).trans rfl⟩ (fun hHeld => ?_)
             clear hK K
             refine norm_ (a' := ?_) ?_ ?_
             rotate_left
             ·show Act.put _ (some 80) _ = _
              simp only [Act.put, List.setIfInBounds_toArray, List.set_cons_zero, List.set_cons_succ, i64_w, i32_w]
              rfl
             refine pure_ (i := 10) (N := some 81) (v := ?_) (a' := ?_) #[true, true, true, true, true, true, true, true, true, true, true, true, false] rfl rfl (any_of HT_.out (by kernel_rfl)) (fun _ _ _ h => h) (Or.inl ⟨by rfl, ?_⟩) ?_ ?_
             rotate_left
             ·intro w'
              go_simp
              with_reducible rfl
             rotate_left
             ·simp only [Act.put, List.setIfInBounds_toArray, List.set_cons_zero, List.set_cons_succ, i64_w, i32_w]
              rfl
             exact norm_ (by rfl) (hJ2_5_6_9_11 (v118, .slice Ao47 y120.length co47, v124, .slice Ao46 y126.length co46, gb129) _ ⟨hHeld, (by exact upR (Kd.R_mono HO122.out (fun _ hk => ⟨hk.2, ⟨hk.1.1, hk.1.2⟩⟩))), (by exact upR (Kd.R_mono HO128.out (fun _ hk => ⟨hk.2.2, ⟨hk.1, hk.2.1⟩⟩))), (by exact upR (Kd.R_mono HO_117001.out (fun _ hk => ⟨hk.1.2, ⟨hk.2, hk.1.1⟩⟩))), (by exact upR (Kd.R_mono HO_117002.out (fun _ hk => ⟨hk.1.2, ⟨hk.2, hk.1.1⟩⟩))), (by exact upK BK116.out), (by exact upK BK129.out), GW129.out, GE129.out, NB116_129.out, NB129_116.out, (by exact upB HB.out)⟩)
           ·skip
            rintro ⟨v118, v121, v124, v127⟩ w46 ⟨hS_, h0_, h1_, h2_, h3_, h4_, h5_⟩
            have n0_ : Aside0 (Kd.R Kd.string 9 w46 w.heap.size (fun k_ => some k_ ≠ (v127 : Value).ownBlock ∧ some k_ ≠ (.slice Ao25 t109.length co25 : Value).ownBlock ∧ some k_ ≠ (.slice Ao26 t112.length co26 : Value).ownBlock) v121 y120) := ⟨h0_⟩
            have n1_ : Aside0 (Kd.R Kd.string 9 w46 w.heap.size (fun k_ => some k_ ≠ (v121 : Value).ownBlock ∧ some k_ ≠ (.slice Ao25 t109.length co25 : Value).ownBlock ∧ some k_ ≠ (.slice Ao26 t112.length co26 : Value).ownBlock) v127 y126) := ⟨h1_⟩
            have n2_ : Aside0 (Kd.R Kd.string 9 w46 w.heap.size (fun k_ => some k_ ≠ (v121 : Value).ownBlock ∧ some k_ ≠ (v127 : Value).ownBlock ∧ some k_ ≠ (.slice Ao26 t112.length co26 : Value).ownBlock) (.slice Ao25 t109.length co25) t109) := ⟨h2_⟩
            have n3_ : Aside0 (Kd.R Kd.string 9 w46 w.heap.size (fun k_ => some k_ ≠ (v121 : Value).ownBlock ∧ some k_ ≠ (v127 : Value).ownBlock ∧ some k_ ≠ (.slice Ao25 t109.length co25 : Value).ownBlock) (.slice Ao26 t112.length co26) t112) := ⟨h3_⟩
            have n4_ : Aside0 (w46.heap[gb116]? = some (.cells #[.int .i64 t108, .slice Ao25 t109.length co25, .slice Ao26 t112.length co26] 29 (0, 0))) := ⟨h4_⟩
            have n5_ : Aside0 (Below w.heap.size w w46) := ⟨h5_⟩
            clear HO_117001
            clear HO_117002
            clear BK116
            clear HB
            clear h0_ h1_ h2_ h3_ h4_ h5_
            have HO122 := n0_
            have HO128 := n1_
            have HO_117001 := n2_
            have HO_117002 := n3_
            have BK116 := n4_
            have HB := n5_
            clear n0_ n1_ n2_ n3_ n4_ n5_
            have hHeld : w46.cell? ⟨gb116, 0, none⟩ = some (.int .i64 t108) ∧ w46.cell? ⟨gb116, 1, none⟩ = some (.slice Ao25 t109.length co25) ∧ w46.cell? ⟨gb116, 2, none⟩ = some (.slice Ao26 t112.length co26) := hS_
            obtain ⟨Ao47, co47, eo47⟩ := Kd.R_slice HO128.out
            (first | subst eo47 | (injection eo47 with f1_ f2_ f3_; have f4_ := f1_.symm; have f5_ := f3_.symm; clear f1_ f2_ f3_; subst f4_; subst f5_))
            obtain ⟨Ao48, co48, eo48⟩ := Kd.R_slice HO122.out
            (first | subst eo48 | (injection eo48 with f1_ f2_ f3_; have f4_ := f1_.symm; have f5_ := f3_.symm; clear f1_ f2_ f3_; subst f4_; subst f5_))
            refine norm_ (a' := ?_) ?_ ?_
            rotate_left
            ·simp only [putAll, Act.put, List.setIfInBounds_toArray, List.set_cons_zero, List.set_cons_succ]
             rfl
            refine one_ (i := 11) (N := some 20) #[true, true, true, true, true, true, true, true, true, true, true, true, false] rfl rfl (one_of HT_.out (by kernel_rfl)) (by decide) (fun K hK => ?_)
            refine box_step ?hg (N := 20) ?hd (cs := #[.int .i64 0, .slice none 0 0, .slice none 0 0]) (t := 29) ?hr ?_; (case hd => rfl); (case hg => rfl); (case hr => first | (go_simp; done) | (go_simp; rfl))
            intro gb129 hg w49 hbox hb
            have n0_ := Aside0.mk (Kd.R_below (by exact upR HO_117001.out) hb)
            have n1_ := Aside0.mk (Kd.R_below (by exact upR HO_117002.out) hb)
            have n2_ := Aside0.mk (Kd.R_below (by exact upR HO122.out) hb)
            have n3_ := Aside0.mk (Kd.R_below (by exact upR HO128.out) hb)
            have n4_ := Aside0.mk (blk_below (g := gb116) (o := .cells #[.int .i64 t108, .slice Ao25 t109.length co25, .slice Ao26 t112.length co26] 29 (0, 0)) (by exact upK BK116.out) hb)
            have n5_ := Aside0.mk (below_step (by exact upB HB.out) hb)
            have n6_ := Aside0.mk (hbox)
            have n7_ := Aside0.mk ((by rw [hg]; exact (below_size (by exact upB HB.out)) : w.heap.size ≤ gb129))
            have n8_ := Aside0.mk ((by rw [hg]; exact (below_size (by exact upB HB.out)) : w.heap.size ≤ gb129))
            have n9_ := Aside0.mk ((by rw [hg]; exact Nat.ne_of_lt (blk_lt (g := gb116) (o := .cells #[.int .i64 t108, .slice Ao25 t109.length co25, .slice Ao26 t112.length co26] 29 (0, 0)) (by exact upK BK116.out)) : gb116 ≠ gb129))
            have n10_ := Aside0.mk ((by rw [hg]; exact Nat.ne_of_gt (blk_lt (g := gb116) (o := .cells #[.int .i64 t108, .slice Ao25 t109.length co25, .slice Ao26 t112.length co26] 29 (0, 0)) (by exact upK BK116.out)) : gb129 ≠ gb116))
            clear HO_117001
            clear HO_117002
            clear HO122
            clear HO128
            clear BK116
            clear HB
            have HO_117001 := n0_
            have HO_117002 := n1_
            have HO122 := n2_
            have HO128 := n3_
            have BK116 := n4_
            have HB := n5_
            have BK129 := n6_
            have GW129 := n7_
            have GE129 := n8_
            have NB116_129 := n9_
            have NB129_116 := n10_
            clear n0_ n1_ n2_ n3_ n4_ n5_ n6_ n7_ n8_ n9_ n10_
            clear hb hbox hg
            refine hK.out _ _ ⟨(blk_cell BK116.out 0).trans rfl, (blk_cell BK116.out 1).trans rfl, (blk_cell BK116.out 2).trans rfl⟩ (fun hHeld => ?_)
            clear hK K
            refine norm_ (a' := ?_) ?_ ?_
            rotate_left
            ·show Act.put _ (some 20) _ = _
             simp only [Act.put, List.setIfInBounds_toArray, List.set_cons_zero, List.set_cons_succ, i64_w, i32_w]
             rfl
            exact norm_ (by rfl) (hJ2_5_6_9_11 (v118, .slice Ao48 y120.length co48, v124, .slice Ao47 y126.length co47, gb129) _ ⟨hHeld, (by exact upR HO122.out), (by exact upR HO128.out), (by exact upR HO_117001.out), (by exact upR HO_117002.out), (by exact upK BK116.out), (by exact upK BK129.out), GW129.out, GE129.out, NB116_129.out, NB129_116.out, (by exact upB HB.out)⟩)
          rintro ⟨v118, v121, v124, v127, gb129⟩ w47 ⟨hS_, h0_, h1_, h2_, h3_, h4_, h5_, h6_, h7_, h8_, h9_, h10_⟩
          have n0_ : Aside0 (Kd.R Kd.string 9 w47 w.heap.size (fun k_ => some k_ ≠ (v127 : Value).ownBlock ∧ some k_ ≠ (.slice Ao25 t109.length co25 : Value).ownBlock ∧ some k_ ≠ (.slice Ao26 t112.length co26 : Value).ownBlock) v121 y120) := ⟨h0_⟩
          have n1_ : Aside0 (Kd.R Kd.string 9 w47 w.heap.size (fun k_ => some k_ ≠ (v121 : Value).ownBlock ∧ some k_ ≠ (.slice Ao25 t109.length co25 : Value).ownBlock ∧ some k_ ≠ (.slice Ao26 t112.length co26 : Value).ownBlock) v127 y126) := ⟨h1_⟩
          have n2_ : Aside0 (Kd.R Kd.string 9 w47 w.heap.size (fun k_ => some k_ ≠ (v121 : Value).ownBlock ∧ some k_ ≠ (v127 : Value).ownBlock ∧ some k_ ≠ (.slice Ao26 t112.length co26 : Value).ownBlock) (.slice Ao25 t109.length co25) t109) := ⟨h2_⟩
          have n3_ : Aside0 (Kd.R Kd.string 9 w47 w.heap.size (fun k_ => some k_ ≠ (v121 : Value).ownBlock ∧ some k_ ≠ (v127 : Value).ownBlock ∧ some k_ ≠ (.slice Ao25 t109.length co25 : Value).ownBlock) (.slice Ao26 t112.length co26) t112) := ⟨h3_⟩
          have n4_ : Aside0 (w47.heap[gb116]? = some (.cells #[.int .i64 t108, .slice Ao25 t109.length co25, .slice Ao26 t112.length co26] 29 (0, 0))) := ⟨h4_⟩
          have n5_ : Aside0 (w47.heap[gb129]? = some (.cells #[.int .i64 0, .slice none 0 0, .slice none 0 0] 29 (0, 0))) := ⟨h5_⟩
          have n6_ : Aside0 (w.heap.size ≤ gb129) := ⟨h6_⟩
          have n7_ : Aside0 (w.heap.size ≤ gb129) := ⟨h7_⟩
          have n8_ : Aside0 (gb116 ≠ gb129) := ⟨h8_⟩
          have n9_ : Aside0 (gb129 ≠ gb116) := ⟨h9_⟩
          have n10_ : Aside0 (Below w.heap.size w w47) := ⟨h10_⟩
          clear HO_117001
          clear HO_117002
          clear BK116
          clear HB
          clear h0_ h1_ h2_ h3_ h4_ h5_ h6_ h7_ h8_ h9_ h10_
          have HO122 := n0_
          have HO128 := n1_
          have HO_117001 := n2_
          have HO_117002 := n3_
          have BK116 := n4_
          have BK129 := n5_
          have GW129 := n6_
          have GE129 := n7_
          have NB116_129 := n8_
          have NB129_116 := n9_
          have HB := n10_
          clear n0_ n1_ n2_ n3_ n4_ n5_ n6_ n7_ n8_ n9_ n10_
          have hHeld : w47.cell? ⟨gb116, 0, none⟩ = some (.int .i64 t108) ∧ w47.cell? ⟨gb116, 1, none⟩ = some (.slice Ao25 t109.length co25) ∧ w47.cell? ⟨gb116, 2, none⟩ = some (.slice Ao26 t112.length co26) := hS_
          obtain ⟨Ao48, co48, eo48⟩ := Kd.R_slice HO128.out
          (first | subst eo48 | (injection eo48 with f1_ f2_ f3_; have f4_ := f1_.symm; have f5_ := f3_.symm; clear f1_ f2_ f3_; subst f4_; subst f5_))
          obtain ⟨Ao49, co49, eo49⟩ := Kd.R_slice HO122.out
          (first | subst eo49 | (injection eo49 with f1_ f2_ f3_; have f4_ := f1_.symm; have f5_ := f3_.symm; clear f1_ f2_ f3_; subst f4_; subst f5_))
          refine norm_ (a' := ?_) ?_ ?_
          rotate_left
          ·simp only [putAll, Act.put, List.setIfInBounds_toArray, List.set_cons_zero, List.set_cons_succ]
           rfl
          refine one_ (i := 12) (N := none) #[true, true, true, true, true, true, true, true, true, true, true, true, true] rfl rfl (one_of HT_.out (by kernel_rfl)) (by decide) (fun K hK => ?_)
          have hs50 : w47.cell? ⟨gb129, 0, none⟩ = some (.int .i64 0) := (blk_cell BK129.out 0).trans rfl
          have hfs50 := blk_frozen BK129.out 0
          have hns50_0 := NB116_129.out
          have hms50_0 := NB129_116.out
          have hs51 : w47.cell? ⟨gb129, 1, none⟩ = some (.slice none 0 0) := (blk_cell BK129.out 1).trans rfl
          have hfs51 := blk_frozen BK129.out 1
          have hns51_0 := NB116_129.out
          have hms51_0 := NB129_116.out
          have hs52 : w47.cell? ⟨gb129, 2, none⟩ = some (.slice none 0 0) := (blk_cell BK129.out 2).trans rfl
          have hfs52 := blk_frozen BK129.out 2
          have hns52_0 := NB116_129.out
          have hms52_0 := NB129_116.out
          refine skip_ (w1 := ?_) (by rfl) rfl ?_ ?_
          rotate_left
          ·go_simp
           rfl
          refine hK.out _ _ ⟨((cell_far (p := ⟨gb129, _, none⟩) NB116_129.out _).trans (((cell_far (p := ⟨gb129, _, none⟩) NB116_129.out _).trans (((cell_far (p := ⟨gb129, _, none⟩) NB116_129.out _).trans (hHeld.1)))))), ((cell_far (p := ⟨gb129, _, none⟩) NB116_129.out _).trans (((cell_far (p := ⟨gb129, _, none⟩) NB116_129.out _).trans (((cell_far (p := ⟨gb129, _, none⟩) NB116_129.out _).trans (hHeld.2.1)))))), ((cell_far (p := ⟨gb129, _, none⟩) NB116_129.out _).trans (((cell_far (p := ⟨gb129, _, none⟩) NB116_129.out _).trans (((cell_far (p := ⟨gb129, _, none⟩) NB116_129.out _).trans (hHeld.2.2))))))⟩ (fun hHeld => ?_)
          clear hK K
          refine done_ (done_of HT_.out (by kernel_rfl)) ?_
          have n0_ : Aside0 (Kd.R Kd.string 9 (((w47.setCell ⟨gb129, 0, none⟩ (.int .i64 t108)).setCell ⟨gb129, 1, none⟩ (.slice Ao49 y120.length co49)).setCell ⟨gb129, 2, none⟩ (.slice Ao48 y126.length co48)) w.heap.size (fun k_ => some k_ ≠ (.slice Ao26 t112.length co26 : Value).ownBlock ∧ some k_ ≠ (.slice Ao49 y120.length co49 : Value).ownBlock ∧ some k_ ≠ (.slice Ao48 y126.length co48 : Value).ownBlock) (.slice Ao25 t109.length co25) t109) := ⟨by (with_reducible repeat (first | apply Kd.R_alloc | apply Kd.R_drewN | apply Kd.R_drew)); exact Kd.R_mono (Kd.R_far (p := ⟨gb129, 2, none⟩) (Kd.R_far (p := ⟨gb129, 1, none⟩) (Kd.R_far (p := ⟨gb129, 0, none⟩) (Kd.R_types HO_117001.out BK129.out (by decide)) (fun _ hk => hk.2) (.int .i64 t108)) (fun _ hk => hk.2) (.slice Ao49 y120.length co49)) (fun _ hk => hk.2) (.slice Ao48 y126.length co48)) (fun _ hk => ⟨hk.1.2.2, ⟨hk.1.1, hk.1.2.1⟩⟩)⟩
          have n1_ : Aside0 (Kd.R Kd.string 9 (((w47.setCell ⟨gb129, 0, none⟩ (.int .i64 t108)).setCell ⟨gb129, 1, none⟩ (.slice Ao49 y120.length co49)).setCell ⟨gb129, 2, none⟩ (.slice Ao48 y126.length co48)) w.heap.size (fun k_ => some k_ ≠ (.slice Ao25 t109.length co25 : Value).ownBlock ∧ some k_ ≠ (.slice Ao49 y120.length co49 : Value).ownBlock ∧ some k_ ≠ (.slice Ao48 y126.length co48 : Value).ownBlock) (.slice Ao26 t112.length co26) t112) := ⟨by (with_reducible repeat (first | apply Kd.R_alloc | apply Kd.R_drewN | apply Kd.R_drew)); exact Kd.R_mono (Kd.R_far (p := ⟨gb129, 2, none⟩) (Kd.R_far (p := ⟨gb129, 1, none⟩) (Kd.R_far (p := ⟨gb129, 0, none⟩) (Kd.R_types HO_117002.out BK129.out (by decide)) (fun _ hk => hk.2) (.int .i64 t108)) (fun _ hk => hk.2) (.slice Ao49 y120.length co49)) (fun _ hk => hk.2) (.slice Ao48 y126.length co48)) (fun _ hk => ⟨hk.1.2.2, ⟨hk.1.1, hk.1.2.1⟩⟩)⟩
          have n2_ : Aside0 (Kd.R Kd.string 9 (((w47.setCell ⟨gb129, 0, none⟩ (.int .i64 t108)).setCell ⟨gb129, 1, none⟩ (.slice Ao49 y120.length co49)).setCell ⟨gb129, 2, none⟩ (.slice Ao48 y126.length co48)) w.heap.size (fun k_ => some k_ ≠ (.slice Ao25 t109.length co25 : Value).ownBlock ∧ some k_ ≠ (.slice Ao26 t112.length co26 : Value).ownBlock ∧ some k_ ≠ (.slice Ao48 y126.length co48 : Value).ownBlock) (.slice Ao49 y120.length co49) y120) := ⟨by (with_reducible repeat (first | apply Kd.R_alloc | apply Kd.R_drewN | apply Kd.R_drew)); exact Kd.R_mono (Kd.R_far (p := ⟨gb129, 2, none⟩) (Kd.R_far (p := ⟨gb129, 1, none⟩) (Kd.R_far (p := ⟨gb129, 0, none⟩) (Kd.R_types HO122.out BK129.out (by decide)) (fun _ hk => hk.2) (.int .i64 t108)) (fun _ hk => hk.2) (.slice Ao49 y120.length co49)) (fun _ hk => hk.2) (.slice Ao48 y126.length co48)) (fun _ hk => ⟨hk.1.2.1, ⟨hk.1.2.2, hk.1.1⟩⟩)⟩
          have n3_ : Aside0 (Kd.R Kd.string 9 (((w47.setCell ⟨gb129, 0, none⟩ (.int .i64 t108)).setCell ⟨gb129, 1, none⟩ (.slice Ao49 y120.length co49)).setCell ⟨gb129, 2, none⟩ (.slice Ao48 y126.length co48)) w.heap.size (fun k_ => some k_ ≠ (.slice Ao25 t109.length co25 : Value).ownBlock ∧ some k_ ≠ (.slice Ao26 t112.length co26 : Value).ownBlock ∧ some k_ ≠ (.slice Ao49 y120.length co49 : Value).ownBlock) (.slice Ao48 y126.length co48) y126) := ⟨by (with_reducible repeat (first | apply Kd.R_alloc | apply Kd.R_drewN | apply Kd.R_drew)); exact Kd.R_mono (Kd.R_far (p := ⟨gb129, 2, none⟩) (Kd.R_far (p := ⟨gb129, 1, none⟩) (Kd.R_far (p := ⟨gb129, 0, none⟩) (Kd.R_types HO128.out BK129.out (by decide)) (fun _ hk => hk.2) (.int .i64 t108)) (fun _ hk => hk.2) (.slice Ao49 y120.length co49)) (fun _ hk => hk.2) (.slice Ao48 y126.length co48)) (fun _ hk => ⟨hk.1.2.1, ⟨hk.1.2.2, hk.1.1⟩⟩)⟩
          have n4_ : Aside0 ((((w47.setCell ⟨gb129, 0, none⟩ (.int .i64 t108)).setCell ⟨gb129, 1, none⟩ (.slice Ao49 y120.length co49)).setCell ⟨gb129, 2, none⟩ (.slice Ao48 y126.length co48)).heap[gb116]? = some (.cells #[.int .i64 t108, .slice Ao25 t109.length co25, .slice Ao26 t112.length co26] 29 (0, 0))) := ⟨by (with_reducible repeat (first | refine blk_drewN ?_ _ | refine blk_drew ?_ | refine blk_alloc ?_ _)); refine blk_far ?_ NB116_129.out _; (with_reducible repeat (first | refine blk_drewN ?_ _ | refine blk_drew ?_ | refine blk_alloc ?_ _)); refine blk_far ?_ NB116_129.out _; (with_reducible repeat (first | refine blk_drewN ?_ _ | refine blk_drew ?_ | refine blk_alloc ?_ _)); refine blk_far ?_ NB116_129.out _; exact upK BK116.out⟩
          have n5_ : Aside0 ((((w47.setCell ⟨gb129, 0, none⟩ (.int .i64 t108)).setCell ⟨gb129, 1, none⟩ (.slice Ao49 y120.length co49)).setCell ⟨gb129, 2, none⟩ (.slice Ao48 y126.length co48)).heap[gb129]? = some (.cells #[.int .i64 t108, .slice Ao49 y120.length co49, .slice Ao48 y126.length co48] 29 (0, 0))) := ⟨by (with_reducible repeat (first | refine blk_drewN ?_ _ | refine blk_drew ?_ | refine blk_alloc ?_ _)); refine blk_put (cs := #[.int .i64 t108, .slice Ao49 y120.length co49, .slice none 0 0]) ?_ 2 _ rfl; (with_reducible repeat (first | refine blk_drewN ?_ _ | refine blk_drew ?_ | refine blk_alloc ?_ _)); refine blk_put (cs := #[.int .i64 t108, .slice none 0 0, .slice none 0 0]) ?_ 1 _ rfl; (with_reducible repeat (first | refine blk_drewN ?_ _ | refine blk_drew ?_ | refine blk_alloc ?_ _)); refine blk_put (cs := #[.int .i64 0, .slice none 0 0, .slice none 0 0]) ?_ 0 _ rfl; exact upK BK129.out⟩
          have n6_ : Aside0 (Below w.heap.size w (((w47.setCell ⟨gb129, 0, none⟩ (.int .i64 t108)).setCell ⟨gb129, 1, none⟩ (.slice Ao49 y120.length co49)).setCell ⟨gb129, 2, none⟩ (.slice Ao48 y126.length co48))) := ⟨by repeat (first | (with_reducible first | exact HB.out | apply below_alloc | apply pw_below_drewN | apply below_drew1 | refine below_set ?_ GE116.out | refine below_set ?_ GE129.out) | exact HB.out)⟩
          (try clear HO_117001)
          (try clear HO_117002)
          (try clear HO122)
          (try clear HO128)
          (try clear BK116)
          (try clear BK129)
          (try clear HB)
          generalize (((w47.setCell ⟨gb129, 0, none⟩ (.int .i64 t108)).setCell ⟨gb129, 1, none⟩ (.slice Ao49 y120.length co49)).setCell ⟨gb129, 2, none⟩ (.slice Ao48 y126.length co48)) = w53 at n0_ n1_ n2_ n3_ n4_ n5_ n6_ ⊢
          have HO_117001 := n0_
          have HO_117002 := n1_
          have HO122 := n2_
          have HO128 := n3_
          have BK116 := n4_
          have BK129 := n5_
          have HB := n6_
          clear n0_ n1_ n2_ n3_ n4_ n5_ n6_
          go_upto_if 88 with (fail)
          go_cut [] (fun wc => ∃ (kq : Nat) (x117001_35 : List ByteArray) (x117002_35 : List ByteArray) (x130000_35 : Int) (x130001_35 : List ByteArray) (x130002_35 : List ByteArray) (u117001 : Value) (u117002 : Value) (u130001 : Value) (u130002 : Value), Aside0 (pandectlaw03_SealChanges.j1 kq a0 a3 t101 ji8 t106 t108 x117001_35 x117002_35 x130000_35 x130001_35 x130002_35 = some r) ∧ Aside0 (kq ≤ kj15) ∧ Aside0 (Kd.R Kd.string 9 wc w.heap.size (fun k_ => some k_ ≠ (u117002 : Value).ownBlock ∧ some k_ ≠ (u130001 : Value).ownBlock ∧ some k_ ≠ (u130002 : Value).ownBlock) u117001 x117001_35) ∧ Aside0 (Kd.R Kd.string 9 wc w.heap.size (fun k_ => some k_ ≠ (u117001 : Value).ownBlock ∧ some k_ ≠ (u130001 : Value).ownBlock ∧ some k_ ≠ (u130002 : Value).ownBlock) u117002 x117002_35) ∧ Aside0 (Kd.R Kd.string 9 wc w.heap.size (fun k_ => some k_ ≠ (u117001 : Value).ownBlock ∧ some k_ ≠ (u117002 : Value).ownBlock ∧ some k_ ≠ (u130002 : Value).ownBlock) u130001 x130001_35) ∧ Aside0 (Kd.R Kd.string 9 wc w.heap.size (fun k_ => some k_ ≠ (u117001 : Value).ownBlock ∧ some k_ ≠ (u117002 : Value).ownBlock ∧ some k_ ≠ (u130001 : Value).ownBlock) u130002 x130002_35) ∧ Aside0 (wc.heap[gb116]? = some (.cells #[.int .i64 t108, u117001, u117002] 29 (0, 0))) ∧ Aside0 (wc.heap[gb129]? = some (.cells #[.int .i64 x130000_35, u130001, u130002] 29 (0, 0))) ∧ Aside0 (Below w.heap.size w wc))
          case first =>
           have H := HC36.out
           clear HC36
           by_cases c54 : (Int.tmod (wrap64 (a4)) (wrap64 (19 + ji8))) < 18
           ·rw [if_pos c54] at H
            have c54b0 : decide ((Int.tmod (wrap64 (a4)) (wrap64 (19 + ji8))) < 18) = true := decide_eq_true c54
            clear c54
            (first | rw [c54b0] | (simp only [i64_w, i32_w]; rw [c54b0]) | skip)
            obtain ⟨ji55, hji55⟩ : ∃ j_ : Int, (Int.tmod (wrap64 (a4)) (wrap64 (19 + ji8))) = j_ := ⟨_, rfl⟩
            replace H : (if 0 ≤ (ji55) then (if (ji55) < (y120.length : Int) then (pandectlaw03_SealChanges.j1 kj15 a0 a3 t101 ji8 t106 t108 t109 t112 t108 (y120.set ((ji55) : Int).toNat a5) y126) else (none)) else (none)) = some r := by first | (rw [hji55] at H; exact H) | (simp only [hji55] at H ⊢; exact H)
            (try rw [hji55] at c54b0)
            by_cases c56 : 0 ≤ (ji55)
            ·rw [if_pos c56] at H
             have c56b0 : decide (0 ≤ (ji55)) = true := decide_eq_true c56
             clear c56
             by_cases c57 : (ji55) < (y120.length : Int)
             ·rw [if_pos c57] at H
              have c57b0 : decide ((ji55) < (y120.length : Int)) = true := decide_eq_true c57
              clear c57
              obtain ⟨y130, hy130⟩ : ∃ y_ : List ByteArray, y_ = (y120.set ((ji55) : Int).toNat a5) := ⟨_, rfl⟩
              replace H : (pandectlaw03_SealChanges.j1 kj15 a0 a3 t101 ji8 t106 t108 t109 t112 t108 y130 y126) = some r := by first | (rw [hy130]; with_reducible exact H) | (have H2_ := (Option.bind_some _ _).symm.trans H; rw [hy130]; with_reducible exact H2_) | (have H2_ := (Option.bind_some _ _).symm.trans H; with_reducible exact H2_) | with_reducible exact H | (rw [hy130]; exact H) | exact H
              have Ny130 := Aside0.mk hy130
              clear hy130
              have H' := Aside0.mk H
              clear H
              have hnb59 := NB129_116.out
              have hnc59 := NB116_129.out
              have hcz60_0 : w53.cell? ⟨gb129, 0, none⟩ = some (.int .i64 t108) := (blk_cell BK129.out 0).trans rfl
              have hcz60_1 : w53.cell? ⟨gb129, 1, none⟩ = some (.slice Ao49 y120.length co49) := (blk_cell BK129.out 1).trans rfl
              have hcz60_2 : w53.cell? ⟨gb129, 2, none⟩ = some (.slice Ao48 y126.length co48) := (blk_cell BK129.out 2).trans rfl
              have hfz60_0 := blk_frozen BK129.out 0
              have hfz60_1 := blk_frozen BK129.out 1
              have hfz60_2 := blk_frozen BK129.out 2
              have p58 : 0 ≤ ((ji55) : Int) := of_decide_eq_true (by first | (with_reducible assumption) | assumption)
              have q58 : ((ji55) : Int) < ((y120.length : Int) : Int) := of_decide_eq_true (by first | (with_reducible assumption) | assumption)
              obtain ⟨go58, co58, eo58, gb58, gl58, cl58, HG58⟩ := Kd.R_form HO122.out (by omega)
              (first | cases eo58 | (injection eo58 with ea_ en_ ec_; (first | subst ea_ | (injection ea_ with ea_; subst ea_)); subst ec_; clear en_))
              have GB58 := Aside0.mk gb58
              have GG58 := Aside0.mk HG58
              clear gb58 gl58 HG58
              obtain ⟨hx58_0, hf58_0⟩ := Kd.R_celln (⟨#[]⟩ : ByteArray) HO122.out ((ji55) : Int) p58 q58
              replace p58 := eq_true p58
              replace q58 := eq_true q58
              have HP61 := Kd.R_putg HO122.out ((ji55) : Int) a5
              go_wp2_with (first | ((with_reducible refine gate_store (t := 9) (p := 93) rfl ?_); refine store_event (t := 9) (p := 93) (v := ?vo_w62) (w1 := (w53.setCell ⟨go58, ((ji55) : Int).toNat, none⟩ (.string a5))) ?hg ?ho ?hn ?hr ?_; (case ho => rfl); (case hg => rfl); (case hn => rfl); (case hr => first | (go_simp; done) | (go_simp; rfl)); intro w62 hw; have hg : w53.grownBy w62 (some go58) := (by rw [hw]; exact HP61.2); have hp_ : Kd.R Kd.string 9 w62 w.heap.size (fun k_ => some k_ ≠ (.slice Ao25 t109.length co25 : Value).ownBlock ∧ some k_ ≠ (.slice Ao26 t112.length co26 : Value).ownBlock ∧ some k_ ≠ (.slice Ao48 y126.length co48 : Value).ownBlock) (.slice (some ⟨go58, 0, none⟩) y120.length co49) y130 := (by rw [hw, Ny130.out]; exact HP61.1); clear HP61; have n0_ := Aside0.mk (Kd.R_after (v := (.slice (some ⟨go58, 0, none⟩) y120.length co49)) (v1 := (.slice (some ⟨go58, 0, none⟩) y120.length co49)) (ok := (fun k_ => some k_ ≠ (.slice Ao26 t112.length co26 : Value).ownBlock ∧ some k_ ≠ (.slice Ao48 y126.length co48 : Value).ownBlock)) (by exact upR (Kd.R_mono HO_117001.out (fun _ hk => ⟨⟨hk.1, hk.2.2⟩, hk.2.1⟩))) hg (.inl rfl)); have n1_ := Aside0.mk (Kd.R_after (v := (.slice (some ⟨go58, 0, none⟩) y120.length co49)) (v1 := (.slice (some ⟨go58, 0, none⟩) y120.length co49)) (ok := (fun k_ => some k_ ≠ (.slice Ao25 t109.length co25 : Value).ownBlock ∧ some k_ ≠ (.slice Ao48 y126.length co48 : Value).ownBlock)) (by exact upR (Kd.R_mono HO_117002.out (fun _ hk => ⟨⟨hk.1, hk.2.2⟩, hk.2.1⟩))) hg (.inl rfl)); have n2_ := Aside0.mk (blk_grown (g := gb116) (o := .cells #[.int .i64 t108, .slice Ao25 t109.length co25, .slice Ao26 t112.length co26] 29 (0, 0)) (by exact upK BK116.out) hg (Kd.R_ne HO122.out BK116.out (by decide))); have n3_ := Aside0.mk (hp_); have n4_ := Aside0.mk (Kd.R_after (v := (.slice (some ⟨go58, 0, none⟩) y120.length co49)) (v1 := (.slice (some ⟨go58, 0, none⟩) y120.length co49)) (ok := (fun k_ => some k_ ≠ (.slice Ao25 t109.length co25 : Value).ownBlock ∧ some k_ ≠ (.slice Ao26 t112.length co26 : Value).ownBlock)) (by exact upR (Kd.R_mono HO128.out (fun _ hk => ⟨⟨hk.1, hk.2.1⟩, hk.2.2⟩))) hg (.inl rfl)); have n5_ := Aside0.mk (blk_grown (g := gb129) (o := .cells #[.int .i64 t108, .slice (some ⟨go58, 0, none⟩) y120.length co49, .slice Ao48 y126.length co48] 29 (0, 0)) (by exact upK BK129.out) hg (Kd.R_ne HO122.out BK129.out (by decide))); have n6_ := Aside0.mk ((by rw [hw]; exact below_set (HB.out) GB58.out : Below w.heap.size w w62)); clear HO_117001; clear HO_117002; clear BK116; clear HO122; clear HO128; clear BK129; clear HB; have HO_117001 := n0_; have HO_117002 := n1_; have BK116 := n2_; have HO122 := n3_; have HO128 := n4_; have BK129 := n5_; have HB := n6_; clear n0_ n1_ n2_ n3_ n4_ n5_ n6_; clear hg hw hp_))
              first | ((go_meet); (case rel => exact ⟨_, (t109), (t112), (t108), (y130), (y126), (.slice Ao25 t109.length co25), (.slice Ao26 t112.length co26), (.slice (some ⟨go58, 0, none⟩) y120.length co49), (.slice Ao48 y126.length co48), H', ⟨by have := HJ15.out; first | omega | exact Nat.le_refl _⟩, ⟨by exact upR (Kd.R_mono HO_117001.out (fun _ hk => ⟨hk.1.1, ⟨hk.2, hk.1.2⟩⟩))⟩, ⟨by exact upR (Kd.R_mono HO_117002.out (fun _ hk => ⟨hk.1.1, ⟨hk.2, hk.1.2⟩⟩))⟩, ⟨by exact upR HO122.out⟩, ⟨by exact upR (Kd.R_mono HO128.out (fun _ hk => ⟨hk.1.1, ⟨hk.1.2, hk.2⟩⟩))⟩, ⟨by exact upK BK116.out⟩, ⟨by exact upK BK129.out⟩, ⟨by exact upB HB.out⟩⟩)) | ((try simp only [← hji55] at H'); (try simp only [← hji55]); (go_meet); (case rel => exact ⟨_, (t109), (t112), (t108), (y130), (y126), (.slice Ao25 t109.length co25), (.slice Ao26 t112.length co26), (.slice (some ⟨go58, 0, none⟩) y120.length co49), (.slice Ao48 y126.length co48), H', ⟨by have := HJ15.out; first | omega | exact Nat.le_refl _⟩, ⟨by exact upR (Kd.R_mono HO_117001.out (fun _ hk => ⟨hk.1.1, ⟨hk.2, hk.1.2⟩⟩))⟩, ⟨by exact upR (Kd.R_mono HO_117002.out (fun _ hk => ⟨hk.1.1, ⟨hk.2, hk.1.2⟩⟩))⟩, ⟨by exact upR HO122.out⟩, ⟨by exact upR (Kd.R_mono HO128.out (fun _ hk => ⟨hk.1.1, ⟨hk.1.2, hk.2⟩⟩))⟩, ⟨by exact upK BK116.out⟩, ⟨by exact upK BK129.out⟩, ⟨by exact upB HB.out⟩⟩))
             ·rw [if_neg c57] at H
              exact absurd H (by simp)
            ·rw [if_neg c56] at H
             exact absurd H (by simp)
           ·rw [if_neg c54] at H
            have c54b0 : decide ((Int.tmod (wrap64 (a4)) (wrap64 (19 + ji8))) < 18) = false := decide_eq_false c54
            clear c54
            (first | rw [c54b0] | (simp only [i64_w, i32_w]; rw [c54b0]) | skip)
            by_cases c63 : (Int.tmod (wrap64 (a4)) (wrap64 (19 + ji8))) < (wrap64 (18 + ji8))
            ·rw [if_pos c63] at H
             have c63b0 : decide ((Int.tmod (wrap64 (a4)) (wrap64 (19 + ji8))) < (wrap64 (18 + ji8))) = true := decide_eq_true c63
             clear c63
             obtain ⟨ji64, hji64⟩ : ∃ j_ : Int, (wrap64 ((Int.tmod (wrap64 (a4)) (wrap64 (19 + ji8))) - 18)) = j_ := ⟨_, rfl⟩
             replace H : (if 0 ≤ (ji64) then (if (ji64) < (y126.length : Int) then (pandectlaw03_SealChanges.j1 kj15 a0 a3 t101 ji8 t106 t108 t109 t112 t108 y120 (y126.set ((ji64) : Int).toNat a5)) else (none)) else (none)) = some r := by first | (rw [hji64] at H; exact H) | (simp only [hji64] at H ⊢; exact H)
             have hji64w : (IntKind.i64.wrap ((Int.tmod (wrap64 (a4)) (wrap64 (19 + ji8))) - 18)) = ji64 := (i64_w _).trans hji64
             by_cases c65 : 0 ≤ (ji64)
             ·rw [if_pos c65] at H
              have c65b0 : decide (0 ≤ (ji64)) = true := decide_eq_true c65
              clear c65
              by_cases c66 : (ji64) < (y126.length : Int)
              ·rw [if_pos c66] at H
               have c66b0 : decide ((ji64) < (y126.length : Int)) = true := decide_eq_true c66
               clear c66
               obtain ⟨y131, hy131⟩ : ∃ y_ : List ByteArray, y_ = (y126.set ((ji64) : Int).toNat a5) := ⟨_, rfl⟩
               replace H : (pandectlaw03_SealChanges.j1 kj15 a0 a3 t101 ji8 t106 t108 t109 t112 t108 y120 y131) = some r := by first | (rw [hy131]; with_reducible exact H) | (have H2_ := (Option.bind_some _ _).symm.trans H; rw [hy131]; with_reducible exact H2_) | (have H2_ := (Option.bind_some _ _).symm.trans H; with_reducible exact H2_) | with_reducible exact H | (rw [hy131]; exact H) | exact H
               have Ny131 := Aside0.mk hy131
               clear hy131
               have H' := Aside0.mk H
               clear H
               have hnb68 := NB129_116.out
               have hnc68 := NB116_129.out
               have hcz69_0 : w53.cell? ⟨gb129, 0, none⟩ = some (.int .i64 t108) := (blk_cell BK129.out 0).trans rfl
               have hcz69_1 : w53.cell? ⟨gb129, 1, none⟩ = some (.slice Ao49 y120.length co49) := (blk_cell BK129.out 1).trans rfl
               have hcz69_2 : w53.cell? ⟨gb129, 2, none⟩ = some (.slice Ao48 y126.length co48) := (blk_cell BK129.out 2).trans rfl
               have hfz69_0 := blk_frozen BK129.out 0
               have hfz69_1 := blk_frozen BK129.out 1
               have hfz69_2 := blk_frozen BK129.out 2
               have p67 : 0 ≤ ((ji64) : Int) := of_decide_eq_true (by first | (with_reducible assumption) | assumption)
               have q67 : ((ji64) : Int) < ((y126.length : Int) : Int) := of_decide_eq_true (by first | (with_reducible assumption) | assumption)
               obtain ⟨go67, co67, eo67, gb67, gl67, cl67, HG67⟩ := Kd.R_form HO128.out (by omega)
               (first | cases eo67 | (injection eo67 with ea_ en_ ec_; (first | subst ea_ | (injection ea_ with ea_; subst ea_)); subst ec_; clear en_))
               have GB67 := Aside0.mk gb67
               have GG67 := Aside0.mk HG67
               clear gb67 gl67 HG67
               obtain ⟨hx67_0, hf67_0⟩ := Kd.R_celln (⟨#[]⟩ : ByteArray) HO128.out ((ji64) : Int) p67 q67
               replace p67 := eq_true p67
               replace q67 := eq_true q67
               have HP70 := Kd.R_putg HO128.out ((ji64) : Int) a5
               go_wp2_with (first | ((with_reducible refine gate_store (t := 9) (p := 103) rfl ?_); refine store_event (t := 9) (p := 103) (v := ?vo_w71) (w1 := (w53.setCell ⟨go67, ((ji64) : Int).toNat, none⟩ (.string a5))) ?hg ?ho ?hn ?hr ?_; (case ho => rfl); (case hg => rfl); (case hn => rfl); (case hr => first | (go_simp; done) | (go_simp; rfl)); intro w71 hw; have hg : w53.grownBy w71 (some go67) := (by rw [hw]; exact HP70.2); have hp_ : Kd.R Kd.string 9 w71 w.heap.size (fun k_ => some k_ ≠ (.slice Ao25 t109.length co25 : Value).ownBlock ∧ some k_ ≠ (.slice Ao26 t112.length co26 : Value).ownBlock ∧ some k_ ≠ (.slice Ao49 y120.length co49 : Value).ownBlock) (.slice (some ⟨go67, 0, none⟩) y126.length co48) y131 := (by rw [hw, Ny131.out]; exact HP70.1); clear HP70; have n0_ := Aside0.mk (Kd.R_after (v := (.slice (some ⟨go67, 0, none⟩) y126.length co48)) (v1 := (.slice (some ⟨go67, 0, none⟩) y126.length co48)) (ok := (fun k_ => some k_ ≠ (.slice Ao26 t112.length co26 : Value).ownBlock ∧ some k_ ≠ (.slice Ao49 y120.length co49 : Value).ownBlock)) (by exact upR (Kd.R_mono HO_117001.out (fun _ hk => ⟨⟨hk.1, hk.2.1⟩, hk.2.2⟩))) hg (.inl rfl)); have n1_ := Aside0.mk (Kd.R_after (v := (.slice (some ⟨go67, 0, none⟩) y126.length co48)) (v1 := (.slice (some ⟨go67, 0, none⟩) y126.length co48)) (ok := (fun k_ => some k_ ≠ (.slice Ao25 t109.length co25 : Value).ownBlock ∧ some k_ ≠ (.slice Ao49 y120.length co49 : Value).ownBlock)) (by exact upR (Kd.R_mono HO_117002.out (fun _ hk => ⟨⟨hk.1, hk.2.1⟩, hk.2.2⟩))) hg (.inl rfl)); have n2_ := Aside0.mk (blk_grown (g := gb116) (o := .cells #[.int .i64 t108, .slice Ao25 t109.length co25, .slice Ao26 t112.length co26] 29 (0, 0)) (by exact upK BK116.out) hg (Kd.R_ne HO128.out BK116.out (by decide))); have n3_ := Aside0.mk (Kd.R_after (v := (.slice (some ⟨go67, 0, none⟩) y126.length co48)) (v1 := (.slice (some ⟨go67, 0, none⟩) y126.length co48)) (ok := (fun k_ => some k_ ≠ (.slice Ao25 t109.length co25 : Value).ownBlock ∧ some k_ ≠ (.slice Ao26 t112.length co26 : Value).ownBlock)) (by exact upR (Kd.R_mono HO122.out (fun _ hk => ⟨⟨hk.1, hk.2.1⟩, hk.2.2⟩))) hg (.inl rfl)); have n4_ := Aside0.mk (hp_); have n5_ := Aside0.mk (blk_grown (g := gb129) (o := .cells #[.int .i64 t108, .slice Ao49 y120.length co49, .slice (some ⟨go67, 0, none⟩) y126.length co48] 29 (0, 0)) (by exact upK BK129.out) hg (Kd.R_ne HO128.out BK129.out (by decide))); have n6_ := Aside0.mk ((by rw [hw]; exact below_set (HB.out) GB67.out : Below w.heap.size w w71)); clear HO_117001; clear HO_117002; clear BK116; clear HO122; clear HO128; clear BK129; clear HB; have HO_117001 := n0_; have HO_117002 := n1_; have BK116 := n2_; have HO122 := n3_; have HO128 := n4_; have BK129 := n5_; have HB := n6_; clear n0_ n1_ n2_ n3_ n4_ n5_ n6_; clear hg hw hp_))
               first | ((go_meet); (case rel => exact ⟨_, (t109), (t112), (t108), (y120), (y131), (.slice Ao25 t109.length co25), (.slice Ao26 t112.length co26), (.slice Ao49 y120.length co49), (.slice (some ⟨go67, 0, none⟩) y126.length co48), H', ⟨by have := HJ15.out; first | omega | exact Nat.le_refl _⟩, ⟨by exact upR (Kd.R_mono HO_117001.out (fun _ hk => ⟨hk.1.1, ⟨hk.1.2, hk.2⟩⟩))⟩, ⟨by exact upR (Kd.R_mono HO_117002.out (fun _ hk => ⟨hk.1.1, ⟨hk.1.2, hk.2⟩⟩))⟩, ⟨by exact upR (Kd.R_mono HO122.out (fun _ hk => ⟨hk.1.1, ⟨hk.1.2, hk.2⟩⟩))⟩, ⟨by exact upR HO128.out⟩, ⟨by exact upK BK116.out⟩, ⟨by exact upK BK129.out⟩, ⟨by exact upB HB.out⟩⟩)) | ((try simp only [← hji55] at H'); (try simp only [← hji55]); (go_meet); (case rel => exact ⟨_, (t109), (t112), (t108), (y120), (y131), (.slice Ao25 t109.length co25), (.slice Ao26 t112.length co26), (.slice Ao49 y120.length co49), (.slice (some ⟨go67, 0, none⟩) y126.length co48), H', ⟨by have := HJ15.out; first | omega | exact Nat.le_refl _⟩, ⟨by exact upR (Kd.R_mono HO_117001.out (fun _ hk => ⟨hk.1.1, ⟨hk.1.2, hk.2⟩⟩))⟩, ⟨by exact upR (Kd.R_mono HO_117002.out (fun _ hk => ⟨hk.1.1, ⟨hk.1.2, hk.2⟩⟩))⟩, ⟨by exact upR (Kd.R_mono HO122.out (fun _ hk => ⟨hk.1.1, ⟨hk.1.2, hk.2⟩⟩))⟩, ⟨by exact upR HO128.out⟩, ⟨by exact upK BK116.out⟩, ⟨by exact upK BK129.out⟩, ⟨by exact upB HB.out⟩⟩)) | ((try simp only [← hji64] at H'); (try simp only [← hji64]); (go_meet); (case rel => exact ⟨_, (t109), (t112), (t108), (y120), (y131), (.slice Ao25 t109.length co25), (.slice Ao26 t112.length co26), (.slice Ao49 y120.length co49), (.slice (some ⟨go67, 0, none⟩) y126.length co48), H', ⟨by have := HJ15.out; first | omega | exact Nat.le_refl _⟩, ⟨by exact upR (Kd.R_mono HO_117001.out (fun _ hk => ⟨hk.1.1, ⟨hk.1.2, hk.2⟩⟩))⟩, ⟨by exact upR (Kd.R_mono HO_117002.out (fun _ hk => ⟨hk.1.1, ⟨hk.1.2, hk.2⟩⟩))⟩, ⟨by exact upR (Kd.R_mono HO122.out (fun _ hk => ⟨hk.1.1, ⟨hk.1.2, hk.2⟩⟩))⟩, ⟨by exact upR HO128.out⟩, ⟨by exact upK BK116.out⟩, ⟨by exact upK BK129.out⟩, ⟨by exact upB HB.out⟩⟩)) | ((try simp only [← hji55] at H'); (try simp only [← hji55]); (try simp only [← hji64] at H'); (try simp only [← hji64]); (go_meet); (case rel => exact ⟨_, (t109), (t112), (t108), (y120), (y131), (.slice Ao25 t109.length co25), (.slice Ao26 t112.length co26), (.slice Ao49 y120.length co49), (.slice (some ⟨go67, 0, none⟩) y126.length co48), H', ⟨by have := HJ15.out; first | omega | exact Nat.le_refl _⟩, ⟨by exact upR (Kd.R_mono HO_117001.out (fun _ hk => ⟨hk.1.1, ⟨hk.1.2, hk.2⟩⟩))⟩, ⟨by exact upR (Kd.R_mono HO_117002.out (fun _ hk => ⟨hk.1.1, ⟨hk.1.2, hk.2⟩⟩))⟩, ⟨by exact upR (Kd.R_mono HO122.out (fun _ hk => ⟨hk.1.1, ⟨hk.1.2, hk.2⟩⟩))⟩, ⟨by exact upR HO128.out⟩, ⟨by exact upK BK116.out⟩, ⟨by exact upK BK129.out⟩, ⟨by exact upB HB.out⟩⟩))
              ·rw [if_neg c66] at H
               exact absurd H (by simp)
             ·rw [if_neg c65] at H
              exact absurd H (by simp)
            ·rw [if_neg c63] at H
             have c63b0 : decide ((Int.tmod (wrap64 (a4)) (wrap64 (19 + ji8))) < (wrap64 (18 + ji8))) = false := decide_eq_false c63
             clear c63
             by_cases c72 : 0 ≤ ji8
             ·rw [if_pos c72] at H
              have c72b0 := eq_true c72
              have c72b1 : decide (0 ≤ ji8) = true := decide_eq_true c72
              clear c72
              have hji73 : (shl .i64 1 ji8) = ji10 := hji10
              replace H : (if (ji10) = 0 then (none) else (pandectlaw03_SealChanges.j1 kj15 a0 a3 t101 ji8 t106 t108 t109 t112 (Int.tmod (wrap64 (t108 + 1)) (ji10)) y120 y126)) = some r := by first | (rw [hji73] at H; exact H) | (simp only [hji73] at H ⊢; exact H)
              by_cases c74 : (ji10) = 0
              ·rw [if_pos c74] at H
               exact absurd H (by simp)
              ·rw [if_neg c74] at H
               have c74b0 : ((ji10) == 0) = false := beq_eq_false_iff_ne.mpr c74
               have c74b1 : ((ji10) != 0) = true := bne_iff_ne.mpr c74
               have H' := Aside0.mk H
               clear H
               try go_wp2
               have n0_ := Aside0.mk (Kd.R_drew HO_117001.out)
               have n1_ := Aside0.mk (Kd.R_drew HO_117002.out)
               have n2_ := Aside0.mk (Kd.R_drew HO122.out)
               have n3_ := Aside0.mk (Kd.R_drew HO128.out)
               have n4_ := Aside0.mk (blk_drew BK116.out)
               have n5_ := Aside0.mk (blk_drew BK129.out)
               have n6_ := Aside0.mk (below_drew1 HB.out)
               clear HO_117001
               clear HO_117002
               clear HO122
               clear HO128
               clear BK116
               clear BK129
               clear HB
               have HO_117001 := n0_
               have HO_117002 := n1_
               have HO122 := n2_
               have HO128 := n3_
               have BK116 := n4_
               have BK129 := n5_
               have HB := n6_
               clear n0_ n1_ n2_ n3_ n4_ n5_ n6_
               refine start_ (n := 8) (S := fun w' => w'.cell? ⟨gb116, 0, none⟩ = some (.int .i64 t108) ∧ w'.cell? ⟨gb116, 1, none⟩ = some (.slice Ao25 t109.length co25) ∧ w'.cell? ⟨gb116, 2, none⟩ = some (.slice Ao26 t112.length co26)) (ds := []) #[false, false, false, false, false, false, false, false] (by kernel_rfl) rfl rfl ⟨(blk_cell BK116.out 0).trans rfl, (blk_cell BK116.out 1).trans rfl, (blk_cell BK116.out 2).trans rfl⟩ (fun hHeld => ?_); refine with_tabW pandectlaw03_SealChanges.tab16 pandectlaw03_SealChanges.bits16 (fun HT_ HW_ => ?_)
               generalize w53.drew = w75 at HO_117001 HO_117002 HO122 HO128 BK116 BK129 HB hHeld ⊢
               refine pure_ (i := 0) (N := some 104) (v := ?_) (a' := ?_) #[true, false, false, false, false, false, false, false] rfl rfl (any_of HT_.out (by kernel_rfl)) (fun _ _ _ h => h) (Or.inl ⟨by rfl, ?_⟩) ?_ ?_
               rotate_left
               ·intro w'
                go_simp
                with_reducible rfl
               rotate_left
               ·simp only [Act.put, List.setIfInBounds_toArray, List.set_cons_zero, List.set_cons_succ, i64_w, i32_w]
                rfl
               refine pure_ (i := 3) (N := some 107) (v := ?_) (a' := ?_) #[true, false, false, true, false, false, false, false] rfl rfl (any_of HT_.out (by kernel_rfl)) (fun _ _ _ h => h) (Or.inl ⟨by rfl, ?_⟩) ?_ ?_
               rotate_left
               ·intro w'
                go_simp
                with_reducible rfl
               rotate_left
               ·simp only [Act.put, List.setIfInBounds_toArray, List.set_cons_zero, List.set_cons_succ, i64_w, i32_w]
                rfl
               refine pure_ (i := 4) (N := some 108) (v := ?_) (a' := ?_) #[true, false, false, true, true, false, false, false] rfl rfl (any_of HT_.out (by kernel_rfl)) (fun _ _ _ h => h) (Or.inl ⟨by rfl, ?_⟩) ?_ ?_
               rotate_left
               ·intro w'
                go_simp
                with_reducible rfl
               rotate_left
               ·simp only [Act.put, List.setIfInBounds_toArray, List.set_cons_zero, List.set_cons_succ, i64_w, i32_w]
                rfl
               refine take_ (i := 1) (N := some 105) (v := ?_) (a' := ?_) #[true, true, false, true, true, false, false, false] rfl rfl (take_ofW HT_.out HW_.out (by kernel_rfl)) (fun _ _ _ h => h) (Or.inl ⟨by rfl, ?_⟩) hHeld ?_ ?_
               rotate_left
               ·rintro w' ⟨s0, s1, s2⟩
                go_simp
                with_reducible rfl
               rotate_left
               ·simp only [Act.put, List.setIfInBounds_toArray, List.set_cons_zero, List.set_cons_succ, i64_w, i32_w]
                rfl
               refine pure_ (i := 2) (N := some 106) (v := ?_) (a' := ?_) #[true, true, true, true, true, false, false, false] rfl rfl (any_of HT_.out (by kernel_rfl)) (fun _ _ _ h => h) (Or.inl ⟨by rfl, ?_⟩) ?_ ?_
               rotate_left
               ·intro w'
                go_simp
                with_reducible rfl
               rotate_left
               ·simp only [Act.put, List.setIfInBounds_toArray, List.set_cons_zero, List.set_cons_succ, i64_w, i32_w]
                rfl
               refine pure_ (i := 5) (N := some 109) (v := ?_) (a' := ?_) #[true, true, true, true, true, true, false, false] rfl rfl (any_of HT_.out (by kernel_rfl)) (fun _ _ _ h => h) (Or.inl ⟨by rfl, ?_⟩) ?_ ?_
               rotate_left
               ·intro w'
                go_simp
                with_reducible rfl
               rotate_left
               ·simp only [Act.put, List.setIfInBounds_toArray, List.set_cons_zero, List.set_cons_succ, i64_w, i32_w]
                rfl
               refine pure_ (i := 6) (N := some 110) (v := ?_) (a' := ?_) #[true, true, true, true, true, true, true, false] rfl rfl (any_of HT_.out (by kernel_rfl)) (fun _ _ _ h => h) (Or.inl ⟨by rfl, ?_⟩) ?_ ?_
               rotate_left
               ·intro w'
                go_simp
                with_reducible rfl
               rotate_left
               ·simp only [Act.put, List.setIfInBounds_toArray, List.set_cons_zero, List.set_cons_succ, i64_w, i32_w]
                rfl
               refine one_ (i := 7) (N := none) #[true, true, true, true, true, true, true, true] rfl rfl (one_of HT_.out (by kernel_rfl)) (by decide) (fun K hK => ?_)
               have hs76 : w75.cell? ⟨gb129, 0, none⟩ = some (.int .i64 t108) := (blk_cell BK129.out 0).trans rfl
               have hfs76 := blk_frozen BK129.out 0
               have hns76_0 := NB116_129.out
               have hms76_0 := NB129_116.out
               refine skip_ (w1 := ?_) (by rfl) rfl ?_ ?_
               rotate_left
               ·go_simp
                rfl
               refine hK.out _ _ ⟨((cell_far (p := ⟨gb129, _, none⟩) NB116_129.out _).trans (hHeld.1)), ((cell_far (p := ⟨gb129, _, none⟩) NB116_129.out _).trans (hHeld.2.1)), ((cell_far (p := ⟨gb129, _, none⟩) NB116_129.out _).trans (hHeld.2.2))⟩ (fun hHeld => ?_)
               clear hK K
               refine done_ (done_of HT_.out (by kernel_rfl)) ?_
               have n0_ : Aside0 (Kd.R Kd.string 9 (w75.setCell ⟨gb129, 0, none⟩ (.int .i64 (Int.tmod (wrap64 (t108 + 1)) (ji10)))) w.heap.size (fun k_ => some k_ ≠ (.slice Ao26 t112.length co26 : Value).ownBlock ∧ some k_ ≠ (.slice Ao49 y120.length co49 : Value).ownBlock ∧ some k_ ≠ (.slice Ao48 y126.length co48 : Value).ownBlock) (.slice Ao25 t109.length co25) t109) := ⟨by (with_reducible repeat (first | apply Kd.R_alloc | apply Kd.R_drewN | apply Kd.R_drew)); exact Kd.R_mono (Kd.R_far (p := ⟨gb129, 0, none⟩) (Kd.R_types HO_117001.out BK129.out (by decide)) (fun _ hk => hk.2) (.int .i64 (Int.tmod (wrap64 (t108 + 1)) (ji10)))) (fun _ hk => ⟨hk.1.1, ⟨hk.1.2.1, hk.1.2.2⟩⟩)⟩
               have n1_ : Aside0 (Kd.R Kd.string 9 (w75.setCell ⟨gb129, 0, none⟩ (.int .i64 (Int.tmod (wrap64 (t108 + 1)) (ji10)))) w.heap.size (fun k_ => some k_ ≠ (.slice Ao25 t109.length co25 : Value).ownBlock ∧ some k_ ≠ (.slice Ao49 y120.length co49 : Value).ownBlock ∧ some k_ ≠ (.slice Ao48 y126.length co48 : Value).ownBlock) (.slice Ao26 t112.length co26) t112) := ⟨by (with_reducible repeat (first | apply Kd.R_alloc | apply Kd.R_drewN | apply Kd.R_drew)); exact Kd.R_mono (Kd.R_far (p := ⟨gb129, 0, none⟩) (Kd.R_types HO_117002.out BK129.out (by decide)) (fun _ hk => hk.2) (.int .i64 (Int.tmod (wrap64 (t108 + 1)) (ji10)))) (fun _ hk => ⟨hk.1.1, ⟨hk.1.2.1, hk.1.2.2⟩⟩)⟩
               have n2_ : Aside0 (Kd.R Kd.string 9 (w75.setCell ⟨gb129, 0, none⟩ (.int .i64 (Int.tmod (wrap64 (t108 + 1)) (ji10)))) w.heap.size (fun k_ => some k_ ≠ (.slice Ao25 t109.length co25 : Value).ownBlock ∧ some k_ ≠ (.slice Ao26 t112.length co26 : Value).ownBlock ∧ some k_ ≠ (.slice Ao48 y126.length co48 : Value).ownBlock) (.slice Ao49 y120.length co49) y120) := ⟨by (with_reducible repeat (first | apply Kd.R_alloc | apply Kd.R_drewN | apply Kd.R_drew)); exact Kd.R_mono (Kd.R_far (p := ⟨gb129, 0, none⟩) (Kd.R_types HO122.out BK129.out (by decide)) (fun _ hk => hk.2) (.int .i64 (Int.tmod (wrap64 (t108 + 1)) (ji10)))) (fun _ hk => ⟨hk.1.1, ⟨hk.1.2.1, hk.1.2.2⟩⟩)⟩
               have n3_ : Aside0 (Kd.R Kd.string 9 (w75.setCell ⟨gb129, 0, none⟩ (.int .i64 (Int.tmod (wrap64 (t108 + 1)) (ji10)))) w.heap.size (fun k_ => some k_ ≠ (.slice Ao25 t109.length co25 : Value).ownBlock ∧ some k_ ≠ (.slice Ao26 t112.length co26 : Value).ownBlock ∧ some k_ ≠ (.slice Ao49 y120.length co49 : Value).ownBlock) (.slice Ao48 y126.length co48) y126) := ⟨by (with_reducible repeat (first | apply Kd.R_alloc | apply Kd.R_drewN | apply Kd.R_drew)); exact Kd.R_mono (Kd.R_far (p := ⟨gb129, 0, none⟩) (Kd.R_types HO128.out BK129.out (by decide)) (fun _ hk => hk.2) (.int .i64 (Int.tmod (wrap64 (t108 + 1)) (ji10)))) (fun _ hk => ⟨hk.1.1, ⟨hk.1.2.1, hk.1.2.2⟩⟩)⟩
               have n4_ : Aside0 ((w75.setCell ⟨gb129, 0, none⟩ (.int .i64 (Int.tmod (wrap64 (t108 + 1)) (ji10)))).heap[gb116]? = some (.cells #[.int .i64 t108, .slice Ao25 t109.length co25, .slice Ao26 t112.length co26] 29 (0, 0))) := ⟨by (with_reducible repeat (first | refine blk_drewN ?_ _ | refine blk_drew ?_ | refine blk_alloc ?_ _)); refine blk_far ?_ NB116_129.out _; exact upK BK116.out⟩
               have n5_ : Aside0 ((w75.setCell ⟨gb129, 0, none⟩ (.int .i64 (Int.tmod (wrap64 (t108 + 1)) (ji10)))).heap[gb129]? = some (.cells #[.int .i64 (Int.tmod (wrap64 (t108 + 1)) (ji10)), .slice Ao49 y120.length co49, .slice Ao48 y126.length co48] 29 (0, 0))) := ⟨by (with_reducible repeat (first | refine blk_drewN ?_ _ | refine blk_drew ?_ | refine blk_alloc ?_ _)); refine blk_put (cs := #[.int .i64 t108, .slice Ao49 y120.length co49, .slice Ao48 y126.length co48]) ?_ 0 _ rfl; exact upK BK129.out⟩
               have n6_ : Aside0 (Below w.heap.size w (w75.setCell ⟨gb129, 0, none⟩ (.int .i64 (Int.tmod (wrap64 (t108 + 1)) (ji10))))) := ⟨by repeat (first | (with_reducible first | exact HB.out | apply below_alloc | apply pw_below_drewN | apply below_drew1 | refine below_set ?_ GE116.out | refine below_set ?_ GE129.out) | exact HB.out)⟩
               (try clear HO_117001)
               (try clear HO_117002)
               (try clear HO122)
               (try clear HO128)
               (try clear BK116)
               (try clear BK129)
               (try clear HB)
               generalize (w75.setCell ⟨gb129, 0, none⟩ (.int .i64 (Int.tmod (wrap64 (t108 + 1)) (ji10)))) = w77 at n0_ n1_ n2_ n3_ n4_ n5_ n6_ ⊢
               have HO_117001 := n0_
               have HO_117002 := n1_
               have HO122 := n2_
               have HO128 := n3_
               have BK116 := n4_
               have BK129 := n5_
               have HB := n6_
               clear n0_ n1_ n2_ n3_ n4_ n5_ n6_
               try go_wp2
               first | ((go_meet); (case rel => exact ⟨_, (t109), (t112), (Int.tmod (wrap64 (t108 + 1)) (ji10)), (y120), (y126), (.slice Ao25 t109.length co25), (.slice Ao26 t112.length co26), (.slice Ao49 y120.length co49), (.slice Ao48 y126.length co48), H', ⟨by have := HJ15.out; first | omega | exact Nat.le_refl _⟩, ⟨by exact upR HO_117001.out⟩, ⟨by exact upR HO_117002.out⟩, ⟨by exact upR HO122.out⟩, ⟨by exact upR HO128.out⟩, ⟨by exact upK BK116.out⟩, ⟨by exact upK BK129.out⟩, ⟨by exact upB HB.out⟩⟩)) | ((try simp only [← hji55] at H'); (try simp only [← hji55]); (go_meet); (case rel => exact ⟨_, (t109), (t112), (Int.tmod (wrap64 (t108 + 1)) (ji10)), (y120), (y126), (.slice Ao25 t109.length co25), (.slice Ao26 t112.length co26), (.slice Ao49 y120.length co49), (.slice Ao48 y126.length co48), H', ⟨by have := HJ15.out; first | omega | exact Nat.le_refl _⟩, ⟨by exact upR HO_117001.out⟩, ⟨by exact upR HO_117002.out⟩, ⟨by exact upR HO122.out⟩, ⟨by exact upR HO128.out⟩, ⟨by exact upK BK116.out⟩, ⟨by exact upK BK129.out⟩, ⟨by exact upB HB.out⟩⟩)) | ((try simp only [← hji64] at H'); (try simp only [← hji64]); (go_meet); (case rel => exact ⟨_, (t109), (t112), (Int.tmod (wrap64 (t108 + 1)) (ji10)), (y120), (y126), (.slice Ao25 t109.length co25), (.slice Ao26 t112.length co26), (.slice Ao49 y120.length co49), (.slice Ao48 y126.length co48), H', ⟨by have := HJ15.out; first | omega | exact Nat.le_refl _⟩, ⟨by exact upR HO_117001.out⟩, ⟨by exact upR HO_117002.out⟩, ⟨by exact upR HO122.out⟩, ⟨by exact upR HO128.out⟩, ⟨by exact upK BK116.out⟩, ⟨by exact upK BK129.out⟩, ⟨by exact upB HB.out⟩⟩)) | ((try simp only [← hji73] at H'); (try simp only [← hji73]); (go_meet); (case rel => exact ⟨_, (t109), (t112), (Int.tmod (wrap64 (t108 + 1)) (ji10)), (y120), (y126), (.slice Ao25 t109.length co25), (.slice Ao26 t112.length co26), (.slice Ao49 y120.length co49), (.slice Ao48 y126.length co48), H', ⟨by have := HJ15.out; first | omega | exact Nat.le_refl _⟩, ⟨by exact upR HO_117001.out⟩, ⟨by exact upR HO_117002.out⟩, ⟨by exact upR HO122.out⟩, ⟨by exact upR HO128.out⟩, ⟨by exact upK BK116.out⟩, ⟨by exact upK BK129.out⟩, ⟨by exact upB HB.out⟩⟩)) | ((try simp only [← hji55] at H'); (try simp only [← hji55]); (try simp only [← hji64] at H'); (try simp only [← hji64]); (try simp only [← hji73] at H'); (try simp only [← hji73]); (go_meet); (case rel => exact ⟨_, (t109), (t112), (Int.tmod (wrap64 (t108 + 1)) (ji10)), (y120), (y126), (.slice Ao25 t109.length co25), (.slice Ao26 t112.length co26), (.slice Ao49 y120.length co49), (.slice Ao48 y126.length co48), H', ⟨by have := HJ15.out; first | omega | exact Nat.le_refl _⟩, ⟨by exact upR HO_117001.out⟩, ⟨by exact upR HO_117002.out⟩, ⟨by exact upR HO122.out⟩, ⟨by exact upR HO128.out⟩, ⟨by exact upK BK116.out⟩, ⟨by exact upK BK129.out⟩, ⟨by exact upB HB.out⟩⟩))
             ·rw [if_neg c72] at H
              exact absurd H (by simp)
          case rest =>
           clear HC36
           try clear p2
           try clear c3
           try clear c5
           try clear p5
           try clear q5
           try clear hx5
           try clear c6
           try clear p6
           try clear q6
           try clear hx6
           try clear hf6
           try clear c7
           try clear c34
           try clear c54
           try clear c54b0
           try clear c56
           try clear c56b0
           try clear c57
           try clear c57b0
           try clear p58
           try clear q58
           try clear hx58
           try clear hf58
           try clear c59
           try clear c63
           try clear c63b0
           try clear p64
           try clear c65
           try clear c65b0
           try clear c66
           try clear c66b0
           try clear p67
           try clear q67
           try clear hx67
           try clear hf67
           try clear c68
           try clear c72
           try clear c72b0
           try clear c72b1
           try clear c74
           try clear c74b0
           try clear c74b1
           try clear hcz60_0
           try clear hcz60_1
           try clear hcz60_2
           try clear hcz69_0
           try clear hcz69_1
           try clear hcz69_2
           try clear hfz60_0
           try clear hfz60_1
           try clear hfz60_2
           try clear hfz69_0
           try clear hfz69_1
           try clear hfz69_2
           try clear hx58_0
           try clear hx67_0
           try clear p58
           try clear p67
           try clear q58
           try clear q67
           obtain ⟨kq, x117001_35, x117002_35, x130000_35, x130001_35, x130002_35, u117001, u117002, u130001, u130002, HA, HJ35, HO_117001, HO_117002, HO_130001, HO_130002, BK116, BK129, HB⟩ := hcut
           cases kq with
           | zero => exact absurd HA.out (by simp [pandectlaw03_SealChanges.j1])
           | succ kj35 =>
            have H := HA.out
            clear HA
            simp only [pandectlaw03_SealChanges.j1] at H
            have HC78 := Aside0.mk H
            clear H
            go_upto_region 17 with (fail)
            go_cut [120] (fun v120 wc => ∃ (kq : Nat) (x120_77 : Bool), v120 = .bool x120_77 ∧ Aside0 (pandectlaw03_SealChanges.j2 kq a0 a3 t101 ji8 x120_77 x130000_35 x130001_35 x130002_35 = some r) ∧ Aside0 (kq ≤ kj35) ∧ Aside0 (Kd.R Kd.string 9 wc w.heap.size (fun k_ => some k_ ≠ (u117002 : Value).ownBlock ∧ some k_ ≠ (u130001 : Value).ownBlock ∧ some k_ ≠ (u130002 : Value).ownBlock) u117001 x117001_35) ∧ Aside0 (Kd.R Kd.string 9 wc w.heap.size (fun k_ => some k_ ≠ (u117001 : Value).ownBlock ∧ some k_ ≠ (u130001 : Value).ownBlock ∧ some k_ ≠ (u130002 : Value).ownBlock) u117002 x117002_35) ∧ Aside0 (Kd.R Kd.string 9 wc w.heap.size (fun k_ => some k_ ≠ (u117001 : Value).ownBlock ∧ some k_ ≠ (u117002 : Value).ownBlock ∧ some k_ ≠ (u130002 : Value).ownBlock) u130001 x130001_35) ∧ Aside0 (Kd.R Kd.string 9 wc w.heap.size (fun k_ => some k_ ≠ (u117001 : Value).ownBlock ∧ some k_ ≠ (u117002 : Value).ownBlock ∧ some k_ ≠ (u130001 : Value).ownBlock) u130002 x130002_35) ∧ Aside0 (wc.heap[gb116]? = some (.cells #[.int .i64 t108, u117001, u117002] 29 (0, 0))) ∧ Aside0 (wc.heap[gb129]? = some (.cells #[.int .i64 x130000_35, u130001, u130002] 29 (0, 0))) ∧ Aside0 (Below w.heap.size w wc))
            case first =>
             have H := HC78.out
             clear HC78
             replace H := Option.bind_eq_some_iff.mp H
             obtain ⟨t132, A790, H⟩ := H
             replace H : (if t132 = true then (pandectlaw03_SealChanges.j2 kj35 a0 a3 t101 ji8 true x130000_35 x130001_35 x130002_35) else ((seal_Verify.f kj35 t106 a3 x130000_35 x130001_35 x130002_35).bind fun t133 => (pandectlaw03_SealChanges.j2 kj35 a0 a3 t101 ji8 (!t133) x130000_35 x130001_35 x130002_35))) = some r := H
             have A79 := Aside0.mk A790
             clear A790
             by_cases c80 : t132 = true
             ·subst c80
              have H1 : (pandectlaw03_SealChanges.j2 kj35 a0 a3 t101 ji8 true x130000_35 x130001_35 x130002_35) = some r := by rw [if_pos rfl] at H; exact H
              clear H
              have H := H1
              clear H1
              have H' := Aside0.mk H
              clear H
              have hnb81 := NB129_116.out
              have hnc81 := NB116_129.out
              have hcz82_0 : wc.cell? ⟨gb129, 0, none⟩ = some (.int .i64 x130000_35) := (blk_cell BK129.out 0).trans rfl
              have hcz82_1 : wc.cell? ⟨gb129, 1, none⟩ = some (u130001) := (blk_cell BK129.out 1).trans rfl
              have hcz82_2 : wc.cell? ⟨gb129, 2, none⟩ = some (u130002) := (blk_cell BK129.out 2).trans rfl
              have hfz82_0 := blk_frozen BK129.out 0
              have hfz82_1 := blk_frozen BK129.out 1
              have hfz82_2 := blk_frozen BK129.out 2
              have hcz83_0 : wc.cell? ⟨gb116, 0, none⟩ = some (.int .i64 t108) := (blk_cell BK116.out 0).trans rfl
              have hcz83_1 : wc.cell? ⟨gb116, 1, none⟩ = some (u117001) := (blk_cell BK116.out 1).trans rfl
              have hcz83_2 : wc.cell? ⟨gb116, 2, none⟩ = some (u117002) := (blk_cell BK116.out 2).trans rfl
              have hfz83_0 := blk_frozen BK116.out 0
              have hfz83_1 := blk_frozen BK116.out 1
              have hfz83_2 := blk_frozen BK116.out 2
              obtain ⟨Ao84, co84, eo84⟩ := Kd.R_slice HO_130001.out
              subst eo84
              obtain ⟨Ao85, co85, eo85⟩ := Kd.R_slice HO_130002.out
              subst eo85
              obtain ⟨Ao86, co86, eo86⟩ := Kd.R_slice HO_117001.out
              subst eo86
              obtain ⟨Ao87, co87, eo87⟩ := Kd.R_slice HO_117002.out
              subst eo87
              go_wp2_with (first | ((with_reducible refine gate_callee (f := 13) rfl ?_); refine goesL_ (some 113) rfl rfl Tryd.func13 (by kernel_rfl) rfl #[.agg #[.int .i64 x130000_35, .slice Ao84 x130001_35.length co84, .slice Ao85 x130002_35.length co85], .agg #[.int .i64 t108, .slice Ao86 x117001_35.length co86, .slice Ao87 x117002_35.length co87]] rfl (by (try simp only [List.map_toArray, List.map_cons, List.map_nil]); first | done | rfl | (simp only [List.length_drop, List.length_take]; rfl)) ?_; (with_reducible refine (pandectref03_Same.calls kj35 x130000_35 _ _ x130001_35 _ _ x130002_35 t108 _ _ x117001_35 _ _ x117002_35 true _ ?side1 ?side2 ?side3 ?side4 ?side5 ?side6 ?side7 ?side8 A79.out).mono ?_); (case side1 => exact upC ((Kd.R_reads' HO_130001.out).2.2)); (case side2 => exact (Kd.R_reads' HO_130001.out).2.1); (case side3 => exact upC ((Kd.R_reads' HO_130002.out).2.2)); (case side4 => exact (Kd.R_reads' HO_130002.out).2.1); (case side5 => exact upC ((Kd.R_reads' HO_117001.out).2.2)); (case side6 => exact (Kd.R_reads' HO_117001.out).2.1); (case side7 => exact upC ((Kd.R_reads' HO_117002.out).2.2)); (case side8 => exact (Kd.R_reads' HO_117002.out).2.1); rintro e w88 ⟨rfl, hb⟩; refine ⟨_, rfl, ?_⟩; have n0_ := Aside0.mk (Kd.R_below (by exact upR HO_117001.out) hb); have n1_ := Aside0.mk (Kd.R_below (by exact upR HO_117002.out) hb); have n2_ := Aside0.mk (Kd.R_below (by exact upR HO_130001.out) hb); have n3_ := Aside0.mk (Kd.R_below (by exact upR HO_130002.out) hb); have n4_ := Aside0.mk (blk_below (g := gb116) (o := .cells #[.int .i64 t108, .slice Ao86 x117001_35.length co86, .slice Ao87 x117002_35.length co87] 29 (0, 0)) (by exact upK BK116.out) hb); have n5_ := Aside0.mk (blk_below (g := gb129) (o := .cells #[.int .i64 x130000_35, .slice Ao84 x130001_35.length co84, .slice Ao85 x130002_35.length co85] 29 (0, 0)) (by exact upK BK129.out) hb); have n6_ := Aside0.mk (below_step (by exact upB HB.out) hb); clear HO_117001; clear HO_117002; clear HO_130001; clear HO_130002; clear BK116; clear BK129; clear HB; have HO_117001 := n0_; have HO_117002 := n1_; have HO_130001 := n2_; have HO_130002 := n3_; have BK116 := n4_; have BK129 := n5_; have HB := n6_; clear n0_ n1_ n2_ n3_ n4_ n5_ n6_; (try clear hb); (try clear hb2); (try clear hk); (try clear hi)))
              go_meet
              case rel => exact ⟨_, (true), (by first | rfl | (simp; done) | (simp [*]; done)), H', ⟨by have := HJ15.out; have := HJ35.out; first | omega | exact Nat.le_refl _⟩, ⟨by exact upR HO_117001.out⟩, ⟨by exact upR HO_117002.out⟩, ⟨by exact upR HO_130001.out⟩, ⟨by exact upR HO_130002.out⟩, ⟨by exact upK BK116.out⟩, ⟨by exact upK BK129.out⟩, ⟨by exact upB HB.out⟩⟩
             ·replace c80 := Bool.eq_false_iff.mpr c80
              subst c80
              have H1 : ((seal_Verify.f kj35 t106 a3 x130000_35 x130001_35 x130002_35).bind fun t133 => (pandectlaw03_SealChanges.j2 kj35 a0 a3 t101 ji8 (!t133) x130000_35 x130001_35 x130002_35)) = some r := by rw [if_neg (show ¬ (false = true) by decide)] at H; exact H
              clear H
              have H := H1
              clear H1
              replace H := Option.bind_eq_some_iff.mp H
              obtain ⟨t133, A890, H⟩ := H
              replace H : (pandectlaw03_SealChanges.j2 kj35 a0 a3 t101 ji8 (!t133) x130000_35 x130001_35 x130002_35) = some r := H
              have A89 := Aside0.mk A890
              clear A890
              have H' := Aside0.mk H
              clear H
              have hnb90 := NB129_116.out
              have hnc90 := NB116_129.out
              have hcz91_0 : wc.cell? ⟨gb129, 0, none⟩ = some (.int .i64 x130000_35) := (blk_cell BK129.out 0).trans rfl
              have hcz91_1 : wc.cell? ⟨gb129, 1, none⟩ = some (u130001) := (blk_cell BK129.out 1).trans rfl
              have hcz91_2 : wc.cell? ⟨gb129, 2, none⟩ = some (u130002) := (blk_cell BK129.out 2).trans rfl
              have hfz91_0 := blk_frozen BK129.out 0
              have hfz91_1 := blk_frozen BK129.out 1
              have hfz91_2 := blk_frozen BK129.out 2
              have hcz92_0 : wc.cell? ⟨gb116, 0, none⟩ = some (.int .i64 t108) := (blk_cell BK116.out 0).trans rfl
              have hcz92_1 : wc.cell? ⟨gb116, 1, none⟩ = some (u117001) := (blk_cell BK116.out 1).trans rfl
              have hcz92_2 : wc.cell? ⟨gb116, 2, none⟩ = some (u117002) := (blk_cell BK116.out 2).trans rfl
              have hfz92_0 := blk_frozen BK116.out 0
              have hfz92_1 := blk_frozen BK116.out 1
              have hfz92_2 := blk_frozen BK116.out 2
              obtain ⟨Ao93, co93, eo93⟩ := Kd.R_slice HO_130001.out
              subst eo93
              obtain ⟨Ao94, co94, eo94⟩ := Kd.R_slice HO_130002.out
              subst eo94
              obtain ⟨Ao95, co95, eo95⟩ := Kd.R_slice HO_117001.out
              subst eo95
              obtain ⟨Ao96, co96, eo96⟩ := Kd.R_slice HO_117002.out
              subst eo96
              go_wp2_with (first | ((with_reducible refine gate_callee (f := 13) rfl ?_); refine goesL_ (some 113) rfl rfl Tryd.func13 (by kernel_rfl) rfl #[.agg #[.int .i64 x130000_35, .slice Ao93 x130001_35.length co93, .slice Ao94 x130002_35.length co94], .agg #[.int .i64 t108, .slice Ao95 x117001_35.length co95, .slice Ao96 x117002_35.length co96]] rfl (by (try simp only [List.map_toArray, List.map_cons, List.map_nil]); first | done | rfl | (simp only [List.length_drop, List.length_take]; rfl)) ?_; (with_reducible refine (pandectref03_Same.calls kj35 x130000_35 _ _ x130001_35 _ _ x130002_35 t108 _ _ x117001_35 _ _ x117002_35 false _ ?side1 ?side2 ?side3 ?side4 ?side5 ?side6 ?side7 ?side8 A79.out).mono ?_); (case side1 => exact upC ((Kd.R_reads' HO_130001.out).2.2)); (case side2 => exact (Kd.R_reads' HO_130001.out).2.1); (case side3 => exact upC ((Kd.R_reads' HO_130002.out).2.2)); (case side4 => exact (Kd.R_reads' HO_130002.out).2.1); (case side5 => exact upC ((Kd.R_reads' HO_117001.out).2.2)); (case side6 => exact (Kd.R_reads' HO_117001.out).2.1); (case side7 => exact upC ((Kd.R_reads' HO_117002.out).2.2)); (case side8 => exact (Kd.R_reads' HO_117002.out).2.1); rintro e w97 ⟨rfl, hb⟩; refine ⟨_, rfl, ?_⟩; have n0_ := Aside0.mk (Kd.R_below (by exact upR HO_117001.out) hb); have n1_ := Aside0.mk (Kd.R_below (by exact upR HO_117002.out) hb); have n2_ := Aside0.mk (Kd.R_below (by exact upR HO_130001.out) hb); have n3_ := Aside0.mk (Kd.R_below (by exact upR HO_130002.out) hb); have n4_ := Aside0.mk (blk_below (g := gb116) (o := .cells #[.int .i64 t108, .slice Ao95 x117001_35.length co95, .slice Ao96 x117002_35.length co96] 29 (0, 0)) (by exact upK BK116.out) hb); have n5_ := Aside0.mk (blk_below (g := gb129) (o := .cells #[.int .i64 x130000_35, .slice Ao93 x130001_35.length co93, .slice Ao94 x130002_35.length co94] 29 (0, 0)) (by exact upK BK129.out) hb); have n6_ := Aside0.mk (below_step (by exact upB HB.out) hb); clear HO_117001; clear HO_117002; clear HO_130001; clear HO_130002; clear BK116; clear BK129; clear HB; have HO_117001 := n0_; have HO_117002 := n1_; have HO_130001 := n2_; have HO_130002 := n3_; have BK116 := n4_; have BK129 := n5_; have HB := n6_; clear n0_ n1_ n2_ n3_ n4_ n5_ n6_; (try clear hb); (try clear hb2); (try clear hk); (try clear hi); have hcz98_0 : w97.cell? ⟨gb129, 0, none⟩ = some (.int .i64 x130000_35) := (blk_cell BK129.out 0).trans rfl; have hcz98_1 : w97.cell? ⟨gb129, 1, none⟩ = some (.slice Ao93 x130001_35.length co93) := (blk_cell BK129.out 1).trans rfl; have hcz98_2 : w97.cell? ⟨gb129, 2, none⟩ = some (.slice Ao94 x130002_35.length co94) := (blk_cell BK129.out 2).trans rfl; have hfz98_0 := blk_frozen BK129.out 0; have hfz98_1 := blk_frozen BK129.out 1; have hfz98_2 := blk_frozen BK129.out 2) | (go_at_call 16; (with_reducible refine (seal_Verify.calls kj35 t106 a3 x130000_35 _ _ x130001_35 _ _ x130002_35 t133 _ ?side1 ?side2 ?side3 ?side4 ?side5 A89.out).mono ?_); (case side1 => exact upC ((Kd.R_reads' HO_130001.out).2.2)); (case side2 => exact (Kd.R_reads' HO_130001.out).2.1); (case side3 => exact upC ((Kd.R_reads' HO_130002.out).2.2)); (case side4 => exact (Kd.R_reads' HO_130002.out).2.1); (case side5 => exact tabs_below HT.out (by exact upB HB.out)); rintro e w99 ⟨rfl, hb⟩; have n0_ := Aside0.mk (Kd.R_below (by exact upR HO_117001.out) hb); have n1_ := Aside0.mk (Kd.R_below (by exact upR HO_117002.out) hb); have n2_ := Aside0.mk (Kd.R_below (by exact upR HO_130001.out) hb); have n3_ := Aside0.mk (Kd.R_below (by exact upR HO_130002.out) hb); have n4_ := Aside0.mk (blk_below (g := gb116) (o := .cells #[.int .i64 t108, .slice Ao95 x117001_35.length co95, .slice Ao96 x117002_35.length co96] 29 (0, 0)) (by exact upK BK116.out) hb); have n5_ := Aside0.mk (blk_below (g := gb129) (o := .cells #[.int .i64 x130000_35, .slice Ao93 x130001_35.length co93, .slice Ao94 x130002_35.length co94] 29 (0, 0)) (by exact upK BK129.out) hb); have n6_ := Aside0.mk (below_step (by exact upB HB.out) hb); clear HO_117001; clear HO_117002; clear HO_130001; clear HO_130002; clear BK116; clear BK129; clear HB; have HO_117001 := n0_; have HO_117002 := n1_; have HO_130001 := n2_; have HO_130002 := n3_; have BK116 := n4_; have BK129 := n5_; have HB := n6_; clear n0_ n1_ n2_ n3_ n4_ n5_ n6_; (try clear hb); (try clear hb2); (try clear hk); (try clear hi)))
              go_meet
              case rel => exact ⟨_, (!t133), (by first | rfl | (simp; done) | (simp [*]; done)), H', ⟨by have := HJ15.out; have := HJ35.out; first | omega | exact Nat.le_refl _⟩, ⟨by exact upR HO_117001.out⟩, ⟨by exact upR HO_117002.out⟩, ⟨by exact upR HO_130001.out⟩, ⟨by exact upR HO_130002.out⟩, ⟨by exact upK BK116.out⟩, ⟨by exact upK BK129.out⟩, ⟨by exact upB HB.out⟩⟩
            case rest =>
             clear HC78
             try clear c1
             try clear p2
             try clear c3
             try clear c5
             try clear p5
             try clear q5
             try clear hx5
             try clear c6
             try clear p6
             try clear q6
             try clear hx6
             try clear hf6
             try clear c7
             try clear c8
             try clear c9
             try clear c13
             try clear c34
             try clear c54
             try clear c54b0
             try clear c56
             try clear c56b0
             try clear c57
             try clear c57b0
             try clear p58
             try clear q58
             try clear hx58
             try clear hf58
             try clear c59
             try clear c63
             try clear c63b0
             try clear p64
             try clear c65
             try clear c65b0
             try clear c66
             try clear c66b0
             try clear p67
             try clear q67
             try clear hx67
             try clear hf67
             try clear c68
             try clear c72
             try clear c72b0
             try clear c72b1
             try clear c74
             try clear c74b0
             try clear c74b1
             try clear c80
             try clear c81
             try clear c90
             try clear hcz60_0
             try clear hcz60_1
             try clear hcz60_2
             try clear hcz69_0
             try clear hcz69_1
             try clear hcz69_2
             try clear hcz82_0
             try clear hcz82_1
             try clear hcz82_2
             try clear hcz83_0
             try clear hcz83_1
             try clear hcz83_2
             try clear hcz91_0
             try clear hcz91_1
             try clear hcz91_2
             try clear hcz92_0
             try clear hcz92_1
             try clear hcz92_2
             try clear hcz98_0
             try clear hcz98_1
             try clear hcz98_2
             try clear hfz60_0
             try clear hfz60_1
             try clear hfz60_2
             try clear hfz69_0
             try clear hfz69_1
             try clear hfz69_2
             try clear hfz82_0
             try clear hfz82_1
             try clear hfz82_2
             try clear hfz83_0
             try clear hfz83_1
             try clear hfz83_2
             try clear hfz91_0
             try clear hfz91_1
             try clear hfz91_2
             try clear hfz92_0
             try clear hfz92_1
             try clear hfz92_2
             try clear hfz98_0
             try clear hfz98_1
             try clear hfz98_2
             try clear hx58_0
             try clear hx67_0
             try clear p2
             try clear p5
             try clear p58
             try clear p6
             try clear p64
             try clear p67
             try clear q5
             try clear q58
             try clear q6
             try clear q67
             obtain ⟨kq, x120_77, rfl, HA, HJ77, HO_117001, HO_117002, HO_130001, HO_130002, BK116, BK129, HB⟩ := hcut
             cases kq with
             | zero => exact absurd HA.out (by simp [pandectlaw03_SealChanges.j2])
             | succ kj77 =>
              have H := HA.out
              clear HA
              simp only [pandectlaw03_SealChanges.j2] at H
              by_cases c100 : x120_77 = true
              ·subst c100
               have H1 : (some t101) = some r := by rw [if_pos rfl] at H; exact H
               clear H
               have H := H1
               clear H1
               obtain rfl := Option.some.inj H
               go_wp2
               go_ret
               exact ⟨by first | rfl | (simp [errW_none, errW_some] <;> rfl) | (simp only [← hji8, ← hji10]; first | rfl | (simp [errW_none, errW_some] <;> rfl)) | (simp [*, errW_none, errW_some] <;> rfl), by exact upB HB.out⟩
              ·replace c100 := Bool.eq_false_iff.mpr c100
               subst c100
               have H1 : (if t101 = true then ((pandectref03_Made.f kj77 a0 ji8 15).bind fun t134 => ((pandectref03_Checked.f kj77 a3 x130000_35 x130001_35 x130002_35).bind fun t137 => (if t134.length + t137.length < 8796093022208 then ((pandectref02_Shown.f kj77 (t134 ++ t137)).bind fun t143 => (some t143)) else (none)))) else (some false)) = some r := by rw [if_neg (show ¬ (false = true) by decide)] at H; exact H
               clear H
               have H := H1
               clear H1
               by_cases c101 : t101 = true
               ·subst c101
                have H1 : ((pandectref03_Made.f kj77 a0 ji8 15).bind fun t134 => ((pandectref03_Checked.f kj77 a3 x130000_35 x130001_35 x130002_35).bind fun t137 => (if t134.length + t137.length < 8796093022208 then ((pandectref02_Shown.f kj77 (t134 ++ t137)).bind fun t143 => (some t143)) else (none)))) = some r := by rw [if_pos rfl] at H; exact H
                clear H
                have H := H1
                clear H1
                replace H := Option.bind_eq_some_iff.mp H
                obtain ⟨t134, A1020, H⟩ := H
                replace H : ((pandectref03_Checked.f kj77 a3 x130000_35 x130001_35 x130002_35).bind fun t137 => (if t134.length + t137.length < 8796093022208 then ((pandectref02_Shown.f kj77 (t134 ++ t137)).bind fun t143 => (some t143)) else (none))) = some r := H
                have A102 := Aside0.mk A1020
                clear A1020
                replace H := Option.bind_eq_some_iff.mp H
                obtain ⟨t137, A1030, H⟩ := H
                replace H : (if t134.length + t137.length < 8796093022208 then ((pandectref02_Shown.f kj77 (t134 ++ t137)).bind fun t143 => (some t143)) else (none)) = some r := H
                have A103 := Aside0.mk A1030
                clear A1030
                by_cases c104 : t134.length + t137.length < 8796093022208
                ·rw [if_pos c104] at H
                 have LMc104 := Aside0.mk c104
                 clear c104
                 obtain ⟨y140, hy140⟩ : ∃ y_ : List ByteArray, y_ = (t134 ++ t137) := ⟨_, rfl⟩
                 replace H : ((pandectref02_Shown.f kj77 y140).bind fun t143 => (some t143)) = some r := by first | (rw [hy140]; with_reducible exact H) | (have H2_ := (Option.bind_some _ _).symm.trans H; rw [hy140]; with_reducible exact H2_) | (have H2_ := (Option.bind_some _ _).symm.trans H; with_reducible exact H2_) | with_reducible exact H | (rw [hy140]; exact H) | exact H
                 have Ny140 := Aside0.mk hy140
                 clear hy140
                 replace H := Option.bind_eq_some_iff.mp H
                 obtain ⟨t143, A1050, H⟩ := H
                 replace H : (some t143) = some r := H
                 have A105 := Aside0.mk A1050
                 clear A1050
                 obtain rfl := Option.some.inj H
                 try go_wp2
                 have n0_ := Aside0.mk (Kd.R_drew HO_117001.out)
                 have n1_ := Aside0.mk (Kd.R_drew HO_117002.out)
                 have n2_ := Aside0.mk (Kd.R_drew HO_130001.out)
                 have n3_ := Aside0.mk (Kd.R_drew HO_130002.out)
                 have n4_ := Aside0.mk (blk_drew BK116.out)
                 have n5_ := Aside0.mk (blk_drew BK129.out)
                 have n6_ := Aside0.mk (below_drew1 HB.out)
                 clear HO_117001
                 clear HO_117002
                 clear HO_130001
                 clear HO_130002
                 clear BK116
                 clear BK129
                 clear HB
                 have HO_117001 := n0_
                 have HO_117002 := n1_
                 have HO_130001 := n2_
                 have HO_130002 := n3_
                 have BK116 := n4_
                 have BK129 := n5_
                 have HB := n6_
                 clear n0_ n1_ n2_ n3_ n4_ n5_ n6_
                 refine start_ (n := 12) (S := fun w' => w'.cell? ⟨gb129, 0, none⟩ = some (.int .i64 x130000_35) ∧ w'.cell? ⟨gb129, 1, none⟩ = some (u130001) ∧ w'.cell? ⟨gb129, 2, none⟩ = some (u130002)) (ds := []) #[false, false, false, false, false, false, false, false, false, false, false, false] (by kernel_rfl) rfl rfl ⟨(blk_cell BK129.out 0).trans rfl, (blk_cell BK129.out 1).trans rfl, (blk_cell BK129.out 2).trans rfl⟩ (fun hHeld => ?_); refine with_tabW pandectlaw03_SealChanges.tab19 pandectlaw03_SealChanges.bits19 (fun HT_ HW_ => ?_)
                 generalize wc.drew = w106 at HO_117001 HO_117002 HO_130001 HO_130002 BK116 BK129 HB hHeld ⊢
                 refine pure_ (i := 0) (N := some 122) (v := ?_) (a' := ?_) #[true, false, false, false, false, false, false, false, false, false, false, false] rfl rfl (any_of HT_.out (by kernel_rfl)) (fun _ _ _ h => h) (Or.inl ⟨by rfl, ?_⟩) ?_ ?_
                 rotate_left
                 ·intro w'
                  go_simp
                  with_reducible rfl
                 rotate_left
                 ·simp only [Act.put, List.setIfInBounds_toArray, List.set_cons_zero, List.set_cons_succ, i64_w, i32_w]
                  rfl
                 refine pure_ (i := 1) (N := some 123) (v := ?_) (a' := ?_) #[true, true, false, false, false, false, false, false, false, false, false, false] rfl rfl (any_of HT_.out (by kernel_rfl)) (fun _ _ _ h => h) (Or.inl ⟨by rfl, ?_⟩) ?_ ?_
                 rotate_left
                 ·intro w'
                  go_simp
                  with_reducible rfl
                 rotate_left
                 ·simp only [Act.put, List.setIfInBounds_toArray, List.set_cons_zero, List.set_cons_succ, i64_w, i32_w]
                  rfl
                 refine pure_ (i := 2) (N := some 124) (v := ?_) (a' := ?_) #[true, true, true, false, false, false, false, false, false, false, false, false] rfl rfl (any_of HT_.out (by kernel_rfl)) (fun _ _ _ h => h) (Or.inl ⟨by rfl, ?_⟩) ?_ ?_
                 rotate_left
                 ·intro w'
                  go_simp
                  with_reducible rfl
                 rotate_left
                 ·simp only [Act.put, List.setIfInBounds_toArray, List.set_cons_zero, List.set_cons_succ, i64_w, i32_w]
                  rfl
                 refine pure_ (i := 3) (N := some 125) (v := ?_) (a' := ?_) #[true, true, true, true, false, false, false, false, false, false, false, false] rfl rfl (any_of HT_.out (by kernel_rfl)) (fun _ _ _ h => h) (Or.inl ⟨by rfl, ?_⟩) ?_ ?_
                 rotate_left
                 ·intro w'
                  go_simp
                  with_reducible rfl
                 rotate_left
                 ·simp only [Act.put, List.setIfInBounds_toArray, List.set_cons_zero, List.set_cons_succ, i64_w, i32_w]
                  rfl
                 refine pure_ (i := 5) (N := some 127) (v := ?_) (a' := ?_) #[true, true, true, true, false, true, false, false, false, false, false, false] rfl rfl (any_of HT_.out (by kernel_rfl)) (fun _ _ _ h => h) (Or.inl ⟨by rfl, ?_⟩) ?_ ?_
                 rotate_left
                 ·intro w'
                  go_simp
                  with_reducible rfl
                 rotate_left
                 ·simp only [Act.put, List.setIfInBounds_toArray, List.set_cons_zero, List.set_cons_succ, i64_w, i32_w]
                  rfl
                 refine take_ (i := 6) (N := some 128) (v := ?_) (a' := ?_) #[true, true, true, true, false, true, true, false, false, false, false, false] rfl rfl (take_ofW HT_.out HW_.out (by kernel_rfl)) (fun _ _ _ h => h) (Or.inl ⟨by rfl, ?_⟩) hHeld ?_ ?_
                 rotate_left
                 ·rintro w' ⟨s0, s1, s2⟩
                  go_simp
                  with_reducible rfl
                 rotate_left
                 ·simp only [Act.put, List.setIfInBounds_toArray, List.set_cons_zero, List.set_cons_succ, i64_w, i32_w]
                  rfl
                 refine one_ (i := 4) (N := some 126) #[true, true, true, true, true, true, true, false, false, false, false, false] rfl rfl (one_of HT_.out (by kernel_rfl)) (by decide) (fun K hK => ?_)
                 refine goes_ Tryd.func19 (by kernel_rfl) rfl #[.string a0, .int .i64 ji8, .int .i64 15] (by rfl) rfl rfl (by (try simp only [List.map_toArray, List.map_cons, List.map_nil]); first | done | (simp only [hji8]; rfl) | rfl | (simp only [List.length_drop, List.length_take]; rfl)) ?_
                 with_reducible refine (pandectref03_Made.calls kj77 a0 ji8 15 t134 _ A102.out).mono ?_
                 rintro e w107 ⟨v135, rfl, ho0, hb⟩
                 refine ⟨_, rfl, ?_⟩
                 have n0_ := Aside0.mk (Kd.R_elder' (by exact upR HO_117001.out) (Kd.R_base ho0) hb)
                 have n1_ := Aside0.mk (Kd.R_elder' (by exact upR HO_117002.out) (Kd.R_base ho0) hb)
                 have n2_ := Aside0.mk (Kd.R_elder' (by exact upR HO_130001.out) (Kd.R_base ho0) hb)
                 have n3_ := Aside0.mk (Kd.R_elder' (by exact upR HO_130002.out) (Kd.R_base ho0) hb)
                 have n4_ := Aside0.mk (Kd.R_lower (Kd.R_new' (Kd.R_new' (Kd.R_new' (Kd.R_new' ho0 (Kd.R_lt (by exact upR HO_117001.out))) (Kd.R_lt (by exact upR HO_117002.out))) (Kd.R_lt (by exact upR HO_130001.out))) (Kd.R_lt (by exact upR HO_130002.out))) (below_size (by exact upB HB.out)))
                 have n5_ := Aside0.mk (blk_below (g := gb116) (o := .cells #[.int .i64 t108, u117001, u117002] 29 (0, 0)) (by exact upK BK116.out) hb)
                 have n6_ := Aside0.mk (blk_below (g := gb129) (o := .cells #[.int .i64 x130000_35, u130001, u130002] 29 (0, 0)) (by exact upK BK129.out) hb)
                 have n7_ := Aside0.mk (below_step (by exact upB HB.out) hb)
                 clear HO_117001
                 clear HO_117002
                 clear HO_130001
                 clear HO_130002
                 clear BK116
                 clear BK129
                 clear HB
                 have HO_117001 := n0_
                 have HO_117002 := n1_
                 have HO_130001 := n2_
                 have HO_130002 := n3_
                 have HO136 := n4_
                 have BK116 := n5_
                 have BK129 := n6_
                 have HB := n7_
                 clear n0_ n1_ n2_ n3_ n4_ n5_ n6_ n7_
                 (try clear hb)
                 (try clear hb2)
                 (try clear hk)
                 (try clear hi)
                 (try clear ho0)
                 obtain ⟨Ao108, co108, eo108⟩ := Kd.R_slice HO_130001.out
                 (first | subst eo108 | (injection eo108 with f1_ f2_ f3_; have f4_ := f1_.symm; have f5_ := f3_.symm; clear f1_ f2_ f3_; subst f4_; subst f5_))
                 obtain ⟨Ao109, co109, eo109⟩ := Kd.R_slice HO_130002.out
                 (first | subst eo109 | (injection eo109 with f1_ f2_ f3_; have f4_ := f1_.symm; have f5_ := f3_.symm; clear f1_ f2_ f3_; subst f4_; subst f5_))
                 refine hK.out _ _ ⟨(blk_cell BK129.out 0).trans rfl, (blk_cell BK129.out 1).trans rfl, (blk_cell BK129.out 2).trans rfl⟩ (fun hHeld => ?_)
                 clear hK K
                 refine norm_ (a' := ?_) ?_ ?_
                 rotate_left
                 ·show Act.put _ (some 126) _ = _
                  simp only [Act.put, List.setIfInBounds_toArray, List.set_cons_zero, List.set_cons_succ, i64_w, i32_w]
                  rfl
                 refine one_ (i := 7) (N := some 129) #[true, true, true, true, true, true, true, true, false, false, false, false] rfl rfl (one_of HT_.out (by kernel_rfl)) (by decide) (fun K hK => ?_)
                 refine goes_ Tryd.func20 (by kernel_rfl) rfl #[.string a3, .agg #[.int .i64 x130000_35, .slice Ao108 x130001_35.length co108, .slice Ao109 x130002_35.length co109]] (by rfl) rfl rfl (by (try simp only [List.map_toArray, List.map_cons, List.map_nil]); first | done | rfl | (simp only [List.length_drop, List.length_take]; rfl)) ?_
                 with_reducible refine (pandectref03_Checked.calls kj77 a3 x130000_35 _ _ x130001_35 _ _ x130002_35 t137 _ ?side1 ?side2 ?side3 ?side4 A103.out).mono ?_
                 (case side1 => exact upC ((Kd.R_reads' HO_130001.out).2.2))
                 (case side2 => exact (Kd.R_reads' HO_130001.out).2.1)
                 (case side3 => exact upC ((Kd.R_reads' HO_130002.out).2.2))
                 (case side4 => exact (Kd.R_reads' HO_130002.out).2.1)
                 rintro e w110 ⟨v138, rfl, ho0, hb⟩
                 refine ⟨_, rfl, ?_⟩
                 have n0_ := Aside0.mk (Kd.R_elder' (by exact upR HO_117001.out) (Kd.R_base ho0) hb)
                 have n1_ := Aside0.mk (Kd.R_elder' (by exact upR HO_117002.out) (Kd.R_base ho0) hb)
                 have n2_ := Aside0.mk (Kd.R_elder' (by exact upR HO_130001.out) (Kd.R_base ho0) hb)
                 have n3_ := Aside0.mk (Kd.R_elder' (by exact upR HO_130002.out) (Kd.R_base ho0) hb)
                 have n4_ := Aside0.mk (Kd.R_elder' (by exact upR HO136.out) (Kd.R_base ho0) hb)
                 have n5_ := Aside0.mk (Kd.R_lower (Kd.R_new' (Kd.R_new' (Kd.R_new' (Kd.R_new' (Kd.R_new' ho0 (Kd.R_lt (by exact upR HO_117001.out))) (Kd.R_lt (by exact upR HO_117002.out))) (Kd.R_lt (by exact upR HO_130001.out))) (Kd.R_lt (by exact upR HO_130002.out))) (Kd.R_lt (by exact upR HO136.out))) (below_size (by exact upB HB.out)))
                 have n6_ := Aside0.mk (blk_below (g := gb116) (o := .cells #[.int .i64 t108, u117001, u117002] 29 (0, 0)) (by exact upK BK116.out) hb)
                 have n7_ := Aside0.mk (blk_below (g := gb129) (o := .cells #[.int .i64 x130000_35, .slice Ao108 x130001_35.length co108, .slice Ao109 x130002_35.length co109] 29 (0, 0)) (by exact upK BK129.out) hb)
                 have n8_ := Aside0.mk (below_step (by exact upB HB.out) hb)
                 clear HO_117001
                 clear HO_117002
                 clear HO_130001
                 clear HO_130002
                 clear HO136
                 clear BK116
                 clear BK129
                 clear HB
                 have HO_117001 := n0_
                 have HO_117002 := n1_
                 have HO_130001 := n2_
                 have HO_130002 := n3_
                 have HO136 := n4_
                 have HO139 := n5_
                 have BK116 := n6_
                 have BK129 := n7_
                 have HB := n8_
                 clear n0_ n1_ n2_ n3_ n4_ n5_ n6_ n7_ n8_
                 (try clear hb)
                 (try clear hb2)
                 (try clear hk)
                 (try clear hi)
                 (try clear ho0)
                 obtain ⟨Ao112, co112, eo112⟩ := Kd.R_slice HO139.out
                 (first | subst eo112 | (injection eo112 with f1_ f2_ f3_; have f4_ := f1_.symm; have f5_ := f3_.symm; clear f1_ f2_ f3_; subst f4_; subst f5_))
                 refine hK.out _ _ ⟨(blk_cell BK129.out 0).trans rfl, (blk_cell BK129.out 1).trans rfl, (blk_cell BK129.out 2).trans rfl⟩ (fun hHeld => ?_)
                 clear hK K
                 refine norm_ (a' := ?_) ?_ ?_
                 rotate_left
                 ·show Act.put _ (some 129) _ = _
                  simp only [Act.put, List.setIfInBounds_toArray, List.set_cons_zero, List.set_cons_succ, i64_w, i32_w]
                  rfl
                 refine one_ (i := 8) (N := some 130) #[true, true, true, true, true, true, true, true, true, false, false, false] rfl rfl (one_of HT_.out (by kernel_rfl)) (by decide) (fun K hK => ?_)
                 refine Kd.R_append_rows_step Kd.string (w0 := w) w.heap.size (by rfl) (.tmp 126) (.tmp 129) 27 9 (.string ⟨#[]⟩) 16 rfl Tryd.underlying27 info9 rfl (by decide) (by omega) v135 t134 t137 _ _ _ (fun k_ => some k_ ≠ (u117001 : Value).ownBlock ∧ some k_ ≠ (u117002 : Value).ownBlock ∧ some k_ ≠ (.slice Ao108 x130001_35.length co108 : Value).ownBlock ∧ some k_ ≠ (.slice Ao109 x130002_35.length co109 : Value).ownBlock ∧ some k_ ≠ (.slice Ao112 t137.length co112 : Value).ownBlock) (fun _ => False) rfl rfl ?aO ?aR (fun _ _ h => h) (fun _ h => h.elim) ?aF ?aB ?aS ?aL ?_
                 (case aR => exact upC ((Kd.R_reads' HO139.out).2.2))
                 (case aB => exact (by exact upB HB.out))
                 (case aF => exact (fun k_ hk => ⟨Kd.fresh' (Kd.R_lt (by exact upR HO_117001.out)) k_ hk, Kd.fresh' (Kd.R_lt (by exact upR HO_117002.out)) k_ hk, Kd.fresh' (Kd.R_lt (by exact upR HO_130001.out)) k_ hk, Kd.fresh' (Kd.R_lt (by exact upR HO_130002.out)) k_ hk, Kd.fresh' (Kd.R_lt (by exact upR HO139.out)) k_ hk⟩))
                 (case aO => exact (by exact upR (Kd.R_mono HO136.out (fun _ hk => ⟨hk.1.1.1.1.2, ⟨hk.1.1.1.2, ⟨hk.1.1.2, ⟨hk.1.2, hk.2⟩⟩⟩⟩))))
                 (case aS => exact (below_size (by exact upB HB.out)))
                 (case aL => have := LMc104.out; omega)
                 intro v141 w111 ho hb hg hat
                 rw [← Ny140.out] at ho
                 have n0_ := Aside0.mk (Kd.R_after (ok := (fun k_ => some k_ ≠ (u117002 : Value).ownBlock ∧ some k_ ≠ (.slice Ao108 x130001_35.length co108 : Value).ownBlock ∧ some k_ ≠ (.slice Ao109 x130002_35.length co109 : Value).ownBlock ∧ some k_ ≠ (.slice Ao112 t137.length co112 : Value).ownBlock)) (by exact upR (Kd.R_mono HO_117001.out (fun _ hk => ⟨⟨hk.1.1.1, ⟨hk.1.1.2.1, ⟨hk.1.1.2.2, hk.2⟩⟩⟩, hk.1.2⟩))) hg hat)
                 have n1_ := Aside0.mk (Kd.R_after (ok := (fun k_ => some k_ ≠ (u117001 : Value).ownBlock ∧ some k_ ≠ (.slice Ao108 x130001_35.length co108 : Value).ownBlock ∧ some k_ ≠ (.slice Ao109 x130002_35.length co109 : Value).ownBlock ∧ some k_ ≠ (.slice Ao112 t137.length co112 : Value).ownBlock)) (by exact upR (Kd.R_mono HO_117002.out (fun _ hk => ⟨⟨hk.1.1.1, ⟨hk.1.1.2.1, ⟨hk.1.1.2.2, hk.2⟩⟩⟩, hk.1.2⟩))) hg hat)
                 have n2_ := Aside0.mk (Kd.R_after (ok := (fun k_ => some k_ ≠ (u117001 : Value).ownBlock ∧ some k_ ≠ (u117002 : Value).ownBlock ∧ some k_ ≠ (.slice Ao109 x130002_35.length co109 : Value).ownBlock ∧ some k_ ≠ (.slice Ao112 t137.length co112 : Value).ownBlock)) (by exact upR (Kd.R_mono HO_130001.out (fun _ hk => ⟨⟨hk.1.1.1, ⟨hk.1.1.2.1, ⟨hk.1.1.2.2, hk.2⟩⟩⟩, hk.1.2⟩))) hg hat)
                 have n3_ := Aside0.mk (Kd.R_after (ok := (fun k_ => some k_ ≠ (u117001 : Value).ownBlock ∧ some k_ ≠ (u117002 : Value).ownBlock ∧ some k_ ≠ (.slice Ao108 x130001_35.length co108 : Value).ownBlock ∧ some k_ ≠ (.slice Ao112 t137.length co112 : Value).ownBlock)) (by exact upR (Kd.R_mono HO_130002.out (fun _ hk => ⟨⟨hk.1.1.1, ⟨hk.1.1.2.1, ⟨hk.1.1.2.2, hk.2⟩⟩⟩, hk.1.2⟩))) hg hat)
                 have n4_ := Aside0.mk (blk_grown (g := gb116) (o := .cells #[.int .i64 t108, u117001, u117002] 29 (0, 0)) (by exact upK BK116.out) hg (Kd.R_ne HO136.out BK116.out (by decide)))
                 have n5_ := Aside0.mk (blk_grown (g := gb129) (o := .cells #[.int .i64 x130000_35, .slice Ao108 x130001_35.length co108, .slice Ao109 x130002_35.length co109] 29 (0, 0)) (by exact upK BK129.out) hg (Kd.R_ne HO136.out BK129.out (by decide)))
                 have n6_ := Aside0.mk (Kd.R_after (ok := (fun k_ => some k_ ≠ (u117001 : Value).ownBlock ∧ some k_ ≠ (u117002 : Value).ownBlock ∧ some k_ ≠ (.slice Ao108 x130001_35.length co108 : Value).ownBlock ∧ some k_ ≠ (.slice Ao109 x130002_35.length co109 : Value).ownBlock)) (by exact upR (Kd.R_mono HO139.out (fun _ hk => ⟨⟨hk.1.1.1.1.2, ⟨hk.1.1.1.2, ⟨hk.1.1.2, hk.1.2⟩⟩⟩, hk.2⟩))) hg hat)
                 have n7_ := Aside0.mk (hb)
                 have n8_ := Aside0.mk (ho)
                 clear HO_117001
                 clear HO_117002
                 clear HO_130001
                 clear HO_130002
                 clear BK116
                 clear BK129
                 clear HO139
                 clear HB
                 clear HO136
                 have HO_117001 := n0_
                 have HO_117002 := n1_
                 have HO_130001 := n2_
                 have HO_130002 := n3_
                 have BK116 := n4_
                 have BK129 := n5_
                 have HO139 := n6_
                 have HB := n7_
                 have HO142 := n8_
                 clear n0_ n1_ n2_ n3_ n4_ n5_ n6_ n7_ n8_
                 clear ho hb hg hat
                 obtain ⟨Ao113, co113, eo113⟩ := Kd.R_slice HO142.out
                 (first | subst eo113 | (injection eo113 with f1_ f2_ f3_; have f4_ := f1_.symm; have f5_ := f3_.symm; clear f1_ f2_ f3_; subst f4_; subst f5_))
                 refine hK.out _ _ ⟨(blk_cell BK129.out 0).trans rfl, (blk_cell BK129.out 1).trans rfl, (blk_cell BK129.out 2).trans rfl⟩ (fun hHeld => ?_)
                 clear hK K
                 refine norm_ (a' := ?_) ?_ ?_
                 rotate_left
                 ·show Act.put _ (some 130) _ = _
                  simp only [Act.put, List.setIfInBounds_toArray, List.set_cons_zero, List.set_cons_succ, i64_w, i32_w]
                  rfl
                 refine one_ (i := 9) (N := some 131) #[true, true, true, true, true, true, true, true, true, true, false, false] rfl rfl (one_of HT_.out (by kernel_rfl)) (by decide) (fun K hK => ?_)
                 refine goes_ Tryd.func18 (by kernel_rfl) rfl #[.slice Ao113 y140.length co113] (by rfl) rfl rfl (by (try simp only [List.map_toArray, List.map_cons, List.map_nil]); first | done | rfl | (simp only [List.length_drop, List.length_take]; rfl)) ?_
                 with_reducible refine (pandectref02_Shown.calls kj77 _ _ y140 t143 _ ?side1 ?side2 A105.out).mono ?_
                 (case side1 => exact upC ((Kd.R_reads' HO142.out).2.2))
                 (case side2 => exact (Kd.R_reads' HO142.out).2.1)
                 rintro e w114 ⟨rfl, hb⟩
                 refine ⟨_, rfl, ?_⟩
                 have n0_ := Aside0.mk (Kd.R_below (by exact upR HO_117001.out) hb)
                 have n1_ := Aside0.mk (Kd.R_below (by exact upR HO_117002.out) hb)
                 have n2_ := Aside0.mk (Kd.R_below (by exact upR HO_130001.out) hb)
                 have n3_ := Aside0.mk (Kd.R_below (by exact upR HO_130002.out) hb)
                 have n4_ := Aside0.mk (Kd.R_below (by exact upR HO139.out) hb)
                 have n5_ := Aside0.mk (Kd.R_below (by exact upR HO142.out) hb)
                 have n6_ := Aside0.mk (blk_below (g := gb116) (o := .cells #[.int .i64 t108, u117001, u117002] 29 (0, 0)) (by exact upK BK116.out) hb)
                 have n7_ := Aside0.mk (blk_below (g := gb129) (o := .cells #[.int .i64 x130000_35, .slice Ao108 x130001_35.length co108, .slice Ao109 x130002_35.length co109] 29 (0, 0)) (by exact upK BK129.out) hb)
                 have n8_ := Aside0.mk (below_step (by exact upB HB.out) hb)
                 clear HO_117001
                 clear HO_117002
                 clear HO_130001
                 clear HO_130002
                 clear HO139
                 clear HO142
                 clear BK116
                 clear BK129
                 clear HB
                 have HO_117001 := n0_
                 have HO_117002 := n1_
                 have HO_130001 := n2_
                 have HO_130002 := n3_
                 have HO139 := n4_
                 have HO142 := n5_
                 have BK116 := n6_
                 have BK129 := n7_
                 have HB := n8_
                 clear n0_ n1_ n2_ n3_ n4_ n5_ n6_ n7_ n8_
                 (try clear hb)
                 (try clear hb2)
                 (try clear hk)
                 (try clear hi)
                 refine hK.out _ _ ⟨(blk_cell BK129.out 0).trans rfl, (blk_cell BK129.out 1).trans rfl, (blk_cell BK129.out 2).trans rfl⟩ (fun hHeld => ?_)
                 clear hK K
                 refine norm_ (a' := ?_) ?_ ?_
                 rotate_left
                 ·show Act.put _ (some 131) _ = _
                  simp only [Act.put, List.setIfInBounds_toArray, List.set_cons_zero, List.set_cons_succ, i64_w, i32_w]
                  rfl
                 refine pure_ (i := 10) (N := some 132) (v := ?_) (a' := ?_) #[true, true, true, true, true, true, true, true, true, true, true, false] rfl rfl (any_of HT_.out (by kernel_rfl)) (fun _ _ _ h => h) (Or.inl ⟨by rfl, ?_⟩) ?_ ?_
                 rotate_left
                 ·intro w'
                  go_simp
                  with_reducible rfl
                 rotate_left
                 ·simp only [Act.put, List.setIfInBounds_toArray, List.set_cons_zero, List.set_cons_succ, i64_w, i32_w]
                  rfl
                 refine pure_ (i := 11) (N := some 12) (v := ?_) (a' := ?_) #[true, true, true, true, true, true, true, true, true, true, true, true] rfl rfl (any_of HT_.out (by kernel_rfl)) (fun _ _ _ h => h) (Or.inl ⟨by rfl, ?_⟩) ?_ ?_
                 rotate_left
                 ·intro w'
                  go_simp
                  with_reducible rfl
                 rotate_left
                 ·simp only [Act.put, List.setIfInBounds_toArray, List.set_cons_zero, List.set_cons_succ, i64_w, i32_w]
                  rfl
                 refine done_ (done_of HT_.out (by kernel_rfl)) ?_
                 try go_wp2
                 go_ret
                 exact ⟨by first | rfl | (simp [errW_none, errW_some] <;> rfl) | (simp only [← hji8, ← hji10]; first | rfl | (simp [errW_none, errW_some] <;> rfl)) | (simp [*, errW_none, errW_some] <;> rfl), by exact upB HB.out⟩
                ·rw [if_neg c104] at H
                 exact absurd H (by simp)
               ·replace c101 := Bool.eq_false_iff.mpr c101
                subst c101
                have H1 : (some false) = some r := by rw [if_neg (show ¬ (false = true) by decide)] at H; exact H
                clear H
                have H := H1
                clear H1
                obtain rfl := Option.some.inj H
                try go_wp2
                have n0_ := Aside0.mk (Kd.R_drew HO_117001.out)
                have n1_ := Aside0.mk (Kd.R_drew HO_117002.out)
                have n2_ := Aside0.mk (Kd.R_drew HO_130001.out)
                have n3_ := Aside0.mk (Kd.R_drew HO_130002.out)
                have n4_ := Aside0.mk (blk_drew BK116.out)
                have n5_ := Aside0.mk (blk_drew BK129.out)
                have n6_ := Aside0.mk (below_drew1 HB.out)
                clear HO_117001
                clear HO_117002
                clear HO_130001
                clear HO_130002
                clear BK116
                clear BK129
                clear HB
                have HO_117001 := n0_
                have HO_117002 := n1_
                have HO_130001 := n2_
                have HO_130002 := n3_
                have BK116 := n4_
                have BK129 := n5_
                have HB := n6_
                clear n0_ n1_ n2_ n3_ n4_ n5_ n6_
                refine start_ (n := 12) (S := fun w' => True) (ds := []) #[false, false, false, false, false, false, false, false, false, false, false, false] (by kernel_rfl) rfl rfl trivial (fun hHeld => ?_); refine with_tabW pandectlaw03_SealChanges.tab19 pandectlaw03_SealChanges.bits19 (fun HT_ HW_ => ?_)
                generalize wc.drew = w115 at HO_117001 HO_117002 HO_130001 HO_130002 BK116 BK129 HB hHeld ⊢
                refine pure_ (i := 0) (N := some 122) (v := ?_) (a' := ?_) #[true, false, false, false, false, false, false, false, false, false, false, false] rfl rfl (any_of HT_.out (by kernel_rfl)) (fun _ _ _ h => h) (Or.inl ⟨by rfl, ?_⟩) ?_ ?_
                rotate_left
                ·intro w'
                 go_simp
                 with_reducible rfl
                rotate_left
                ·simp only [Act.put, List.setIfInBounds_toArray, List.set_cons_zero, List.set_cons_succ, i64_w, i32_w]
                 rfl
                refine pure_ (i := 1) (N := some 123) (v := ?_) (a' := ?_) #[true, true, false, false, false, false, false, false, false, false, false, false] rfl rfl (any_of HT_.out (by kernel_rfl)) (fun _ _ _ h => h) (Or.inl ⟨by rfl, ?_⟩) ?_ ?_
                rotate_left
                ·intro w'
                 go_simp
                 with_reducible rfl
                rotate_left
                ·simp only [Act.put, List.setIfInBounds_toArray, List.set_cons_zero, List.set_cons_succ, i64_w, i32_w]
                 rfl
                refine pure_ (i := 2) (N := some 124) (v := undef) (a' := ?_) #[true, true, true, false, false, false, false, false, false, false, false, false] rfl rfl (any_of HT_.out (by kernel_rfl)) (fun _ _ _ h => h) (Or.inr ⟨by rfl, rfl⟩) ?_ ?_
                rotate_left
                ·simp only [Act.put, List.setIfInBounds_toArray, List.set_cons_zero, List.set_cons_succ, i64_w, i32_w]
                 rfl
                refine pure_ (i := 3) (N := some 125) (v := undef) (a' := ?_) #[true, true, true, true, false, false, false, false, false, false, false, false] rfl rfl (any_of HT_.out (by kernel_rfl)) (fun _ _ _ h => h) (Or.inr ⟨by rfl, rfl⟩) ?_ ?_
                rotate_left
                ·simp only [Act.put, List.setIfInBounds_toArray, List.set_cons_zero, List.set_cons_succ, i64_w, i32_w]
                 rfl
                refine pure_ (i := 4) (N := some 126) (v := undef) (a' := ?_) #[true, true, true, true, true, false, false, false, false, false, false, false] rfl rfl (any_of HT_.out (by kernel_rfl)) (fun _ _ _ h => h) (Or.inr ⟨by rfl, rfl⟩) ?_ ?_
                rotate_left
                ·simp only [Act.put, List.setIfInBounds_toArray, List.set_cons_zero, List.set_cons_succ, i64_w, i32_w]
                 rfl
                refine pure_ (i := 5) (N := some 127) (v := undef) (a' := ?_) #[true, true, true, true, true, true, false, false, false, false, false, false] rfl rfl (any_of HT_.out (by kernel_rfl)) (fun _ _ _ h => h) (Or.inr ⟨by rfl, rfl⟩) ?_ ?_
                rotate_left
                ·simp only [Act.put, List.setIfInBounds_toArray, List.set_cons_zero, List.set_cons_succ, i64_w, i32_w]
                 rfl
                refine pure_ (i := 6) (N := some 128) (v := undef) (a' := ?_) #[true, true, true, true, true, true, true, false, false, false, false, false] rfl rfl (any_of HT_.out (by kernel_rfl)) (fun _ _ _ h => h) (Or.inr ⟨by rfl, rfl⟩) ?_ ?_
                rotate_left
                ·simp only [Act.put, List.setIfInBounds_toArray, List.set_cons_zero, List.set_cons_succ, i64_w, i32_w]
                 rfl
                refine pure_ (i := 7) (N := some 129) (v := undef) (a' := ?_) #[true, true, true, true, true, true, true, true, false, false, false, false] rfl rfl (any_of HT_.out (by kernel_rfl)) (fun _ _ _ h => h) (Or.inr ⟨by rfl, rfl⟩) ?_ ?_
                rotate_left
                ·simp only [Act.put, List.setIfInBounds_toArray, List.set_cons_zero, List.set_cons_succ, i64_w, i32_w]
                 rfl
                refine pure_ (i := 8) (N := some 130) (v := undef) (a' := ?_) #[true, true, true, true, true, true, true, true, true, false, false, false] rfl rfl (any_of HT_.out (by kernel_rfl)) (fun _ _ _ h => h) (Or.inr ⟨by rfl, rfl⟩) ?_ ?_
                rotate_left
                ·simp only [Act.put, List.setIfInBounds_toArray, List.set_cons_zero, List.set_cons_succ, i64_w, i32_w]
                 rfl
                refine pure_ (i := 9) (N := some 131) (v := undef) (a' := ?_) #[true, true, true, true, true, true, true, true, true, true, false, false] rfl rfl (any_of HT_.out (by kernel_rfl)) (fun _ _ _ h => h) (Or.inr ⟨by rfl, rfl⟩) ?_ ?_
                rotate_left
                ·simp only [Act.put, List.setIfInBounds_toArray, List.set_cons_zero, List.set_cons_succ, i64_w, i32_w]
                 rfl
                refine pure_ (i := 10) (N := some 132) (v := ?_) (a' := ?_) #[true, true, true, true, true, true, true, true, true, true, true, false] rfl rfl (any_of HT_.out (by kernel_rfl)) (fun _ _ _ h => h) (Or.inl ⟨by rfl, ?_⟩) ?_ ?_
                rotate_left
                ·intro w'
                 go_simp
                 with_reducible rfl
                rotate_left
                ·simp only [Act.put, List.setIfInBounds_toArray, List.set_cons_zero, List.set_cons_succ, i64_w, i32_w]
                 rfl
                refine pure_ (i := 11) (N := some 12) (v := ?_) (a' := ?_) #[true, true, true, true, true, true, true, true, true, true, true, true] rfl rfl (any_of HT_.out (by kernel_rfl)) (fun _ _ _ h => h) (Or.inl ⟨by rfl, ?_⟩) ?_ ?_
                rotate_left
                ·intro w'
                 go_simp
                 with_reducible rfl
                rotate_left
                ·simp only [Act.put, List.setIfInBounds_toArray, List.set_cons_zero, List.set_cons_succ, i64_w, i32_w]
                 rfl
                refine done_ (done_of HT_.out (by kernel_rfl)) ?_
                try go_wp2
                go_ret
                exact ⟨by first | rfl | (simp [errW_none, errW_some] <;> rfl) | (simp only [← hji8, ← hji10]; first | rfl | (simp [errW_none, errW_some] <;> rfl)) | (simp [*, errW_none, errW_some] <;> rfl), by exact upB HB.out⟩
        ·rw [if_neg c34] at H
         exact absurd H (by simp)
       ·rw [if_neg c33] at H
        exact absurd H (by simp)
   ·replace c13 := Bool.eq_false_iff.mpr c13
    subst c13
    have H1 : (some t101) = some r := by rw [if_neg (show ¬ (false = true) by decide)] at H; exact H
    clear H
    have H := H1
    clear H1
    obtain rfl := Option.some.inj H
    go_enter Tryd.func6, Tryd.ntmps6
    go_wp2_with (first | ((with_reducible refine gate_callee (f := 9) rfl ?_); refine goesL_ (some 22) rfl rfl Tryd.func9 (by kernel_rfl) rfl #[] rfl (by (try simp only [List.map_toArray, List.map_cons, List.map_nil]); first | done | rfl | (simp only [List.length_drop, List.length_take]; rfl)) ?_; (with_reducible refine (pandectlaw03_head.calls k  t101 _ ?side1 A7.out).mono ?_); (case side1 => exact tabs_below HT.out (by first | exact upB HB.out | exact HB.out)); rintro e w116 ⟨rfl, hb⟩; refine ⟨_, rfl, ?_⟩; have n0_ := Aside0.mk (below_step (by first | exact upB HB.out | exact HB.out) hb); clear HB; have HB := n0_; clear n0_; (try clear hb); (try clear hb2); (try clear hk); (try clear hi)) | ((with_reducible refine gate_dst (N := 34) rfl ?_); (try (refine gate_guard (by rfl) ?_; dsimp only)); refine Kd.R_lit Kd.string _ 9 ?hg (N := 34) ?hd (xs := ([a0, a3, a5] : List ByteArray)) (inner := [.string a0, .string a3, .string a5]) (ok := fun _ => True) (okp := fun _ => True) ?hr ?hp (fun _ hk => hk) trivial (Below.refl _ _) (Nat.le_refl _) (by simp) ?_; (case hd => rfl); (case hg => rfl); (case hr => first | (go_simp; done) | (go_simp; rfl)); (case hp => exact (Reps.one (show Kd.M Kd.string _ _ _ a0 [.string a0] from rfl) (Reps.one (show Kd.M Kd.string _ _ _ a3 [.string a3] from rfl) (Reps.one (show Kd.M Kd.string _ _ _ a5 [.string a5] from rfl) (Reps.none _ _))))); intro v103 w117 ho118 hb hg_ hnew_; clear hg_ hnew_; (first | rw [← Ny102.out] at ho118 | (simp only [Int.reduceToNat] at ho118; rw [← Ny102.out] at ho118)); have n0_ := Aside0.mk (Kd.R_lower ho118 (below_size (by first | exact upB HB.out | exact HB.out))); have n1_ := Aside0.mk (below_step (by first | exact upB HB.out | exact HB.out) hb); clear HB; have HO104 := n0_; have HB := n1_; clear n0_ n1_; clear hb ho118; obtain ⟨Ao119, co119, eo119⟩ := Kd.R_slice HO104.out; subst eo119) | ((with_reducible refine gate_callee (f := 10) rfl ?_); refine goesL_ (some 35) rfl rfl Tryd.func10 (by kernel_rfl) rfl #[.slice Ao119 y102.length co119] rfl (by (try simp only [List.map_toArray, List.map_cons, List.map_nil]); first | done | rfl | (simp only [List.length_drop, List.length_take]; rfl)) ?_; (with_reducible refine (pandectlaw03_short.calls k _ _ y102 false _ ?side1 ?side2 A12.out).mono ?_); (case side1 => exact upC ((Kd.R_reads' HO104.out).2.2)); (case side2 => exact (Kd.R_reads' HO104.out).2.1); rintro e w' ⟨rfl, ⟨nd, rfl⟩⟩; refine ⟨_, rfl, ?_⟩))
    go_ret
    exact ⟨by first | rfl | (simp [errW_none, errW_some] <;> rfl) | (simp only [← hji8, ← hji10]; first | rfl | (simp [errW_none, errW_some] <;> rfl)) | (simp [*, errW_none, errW_some] <;> rfl), by first | exact upB HB.out | exact HB.out⟩
 ·rw [if_neg c9] at H
  exact absurd H (by simp)

end Go.Proofs.YtfhdknjccmcgdaaDoor.P
