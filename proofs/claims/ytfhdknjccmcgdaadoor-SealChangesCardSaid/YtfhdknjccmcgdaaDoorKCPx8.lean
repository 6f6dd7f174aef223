import Derived.Test.YtfhdknjccmcgdaaDoorKPx0
import Derived.Test.YtfhdknjccmcgdaaDoorKCPx5
import Derived.Test.YtfhdknjccmcgdaaDoorKCPx6
import Derived.Test.YtfhdknjccmcgdaaDoorKCPx7
import Derived.Test.YtfhdknjccmcgdaaDoorKD
import Derived.Test.YtfhdknjccmcgdaaDoorKTa
set_option linter.unusedVariables false
set_option linter.unusedSimpArgs false
-- PRINTED by print.py (a twelfth state) out of the translation. Not trusted: Lean checks it.
namespace Go.Proofs.YtfhdknjccmcgdaaDoor.P
open Go.RowKit Go.Proofs.YtfhdknjccmcgdaaDoorW.PrintWords Go.Proofs.YtfhdknjccmcgdaaDoorW.PrintLast Go.Proofs.YtfhdknjccmcgdaaDoorW.PrintMore
attribute [local go_sem] max2_int min2_int max_two min_two max_three min_three max_four min_four   -- for this text's walks alone
set_option linter.unusedVariables false
set_option linter.unusedSimpArgs false

/-! ### pandectref03_Made: function 19 -/
mutual
def pandectref03_Made.l0 : Nat → ByteArray → Int → Int → List ByteArray → List ByteArray → Int → Option (List ByteArray)
  | 0, _, _, _, _, _, _ => none
  | k + 1, x0, x1, x2, x7, x8, x9 => (pandectref03_Power.f k x1).bind fun t268 => (if x9 < t268 then (pandectref03_Made.l1 k x0 x1 x2 x7 x8 x9 ([] : List ByteArray) 0) else (pandectref03_Made.l2 k x7 x8))
def pandectref03_Made.l1 : Nat → ByteArray → Int → Int → List ByteArray → List ByteArray → Int → List ByteArray → Int → Option (List ByteArray)
  | 0, _, _, _, _, _, _, _, _ => none
  | k + 1, x0, x1, x2, x7, x8, x9, x10, x11 => if x11 < 18 then ((pandectref01_Decimal.f k x9).bind fun t269 => ((pandectref01_Decimal.f k x11).bind fun t270 => ((pandectref01_Joined.f k (([x0, t269, t270] : List ByteArray))).bind fun t274 => (if x7.length < 8796093022208 then ((some (x7 ++ [t274] : List ByteArray)).bind fun y275 => ((pandectref01_Sum.f k t274).bind fun t278 => ((pandectref03_chained.f k t278 x2).bind fun t279 => (if y275.length + t279.length < 8796093022208 then (if 15 < (t279.length : Int) then (if x10.length < 8796093022208 then (pandectref03_Made.l1 k x0 x1 x2 (y275 ++ t279) x8 x9 (x10 ++ [rdOf ByteArray.empty t279 15]) (wrap64 (x11 + 1))) else (none)) else (none)) else (none))))) else (none))))) else ((pandectref01_Joined.f k x10).bind fun t289 => ((pandectref01_Sum.f k t289).bind fun t290 => ((pandectref01_Joined.f k (([(⟨#[108, 101, 97, 102]⟩ : ByteArray), t290] : List ByteArray))).bind fun t294 => ((some (([t289, t294] : List ByteArray) : List ByteArray)).bind fun y295 => (if x7.length + y295.length < 8796093022208 then ((pandectref01_Sum.f k t294).bind fun t301 => (if x8.length < 8796093022208 then (pandectref03_Made.l0 k x0 x1 x2 (x7 ++ y295) (x8 ++ [t301]) (wrap64 (x9 + 1))) else (none))) else (none))))))
def pandectref03_Made.l2 : Nat → List ByteArray → List ByteArray → Option (List ByteArray)
  | 0, _, _ => none
  | k + 1, x7, x8 => if (x8.length : Int) > 1 then (pandectref03_Made.l3 k x7 x8 ([] : List ByteArray) 0) else (some x7)
def pandectref03_Made.l3 : Nat → List ByteArray → List ByteArray → List ByteArray → Int → Option (List ByteArray)
  | 0, _, _, _, _ => none
  | k + 1, x7, x8, x16, x17 => if (wrap64 (x17 + 1)) < (x8.length : Int) then (if 0 ≤ x17 then (if x17 < (x8.length : Int) then (if 0 ≤ (wrap64 (x17 + 1)) then ((pandectref03_node.f k (rdOf ByteArray.empty x8 x17) (rdOf ByteArray.empty x8 (wrap64 (x17 + 1)))).bind fun t307 => (if x7.length < 8796093022208 then ((pandectref03_node.f k (rdOf ByteArray.empty x8 x17) (rdOf ByteArray.empty x8 (wrap64 (x17 + 1)))).bind fun t313 => ((pandectref01_Sum.f k t313).bind fun t314 => (if x16.length < 8796093022208 then (pandectref03_Made.l3 k (x7 ++ [t307]) x8 (x16 ++ [t314]) (wrap64 (x17 + 2))) else (none)))) else (none))) else (none)) else (none)) else (none)) else (pandectref03_Made.l2 k x7 x16)
end
def pandectref03_Made.f (k : Nat) (a0 : ByteArray) (a1 : Int) (a2 : Int) : Option (List ByteArray) := pandectref03_Made.l0 k a0 a1 a2 ([] : List ByteArray) ([] : List ByteArray) 0
def pandectref03_Made.T24 : Bool × List (List Nat × List Nat) := (true, [([], []), ([], []), ([], []), ([1, 2], [1, 2]), ([3], [3]), ([], []), ([], []), ([6], [6]), ([5, 7], [5, 7]), ([8], [8]), ([4, 9], [4, 9]), ([10], [10]), ([0, 11, 10], [0, 11]), ([12, 12, 0, 1, 2, 3, 4, 5, 6, 7, 8, 9, 10, 11, 12], [0, 12])])
def pandectref03_Made.B24 : List Nat := [0, 0, 0, 6, 14, 0, 0, 64, 224, 480, 1022, 2046, 4095, 8191]
theorem pandectref03_Made.tab24 : rtab .any (opsOf Tryd.f19 24) = pandectref03_Made.T24 := by kernel_rfl
theorem pandectref03_Made.bits24 : waitsOk pandectref03_Made.T24.2 pandectref03_Made.B24 = true := by kernel_rfl
def pandectref03_Made.T25 : Bool × List (List Nat × List Nat) := (true, [([], []), ([], []), ([], []), ([1, 2], [1, 2]), ([3], [3]), ([], []), ([], []), ([6], [6]), ([5, 7], [5, 7]), ([8], [8]), ([4, 9], [4, 9]), ([10, 10], [10]), ([11], [11]), ([0, 12, 11], [0, 12]), ([13, 13, 0, 1, 2, 3, 4, 5, 6, 7, 8, 9, 10, 11, 12, 13], [0, 13])])
def pandectref03_Made.B25 : List Nat := [0, 0, 0, 6, 14, 0, 0, 64, 224, 480, 1022, 2046, 4094, 8191, 16383]
theorem pandectref03_Made.tab25 : rtab .any (opsOf Tryd.f19 25) = pandectref03_Made.T25 := by kernel_rfl
theorem pandectref03_Made.bits25 : waitsOk pandectref03_Made.T25.2 pandectref03_Made.B25 = true := by kernel_rfl
set_option maxHeartbeats 8000000 in
set_option maxRecDepth 100000 in
theorem pandectref03_Made.calls (k : Nat) (a0 : ByteArray) (a1 : Int) (a2 : Int) (r : List ByteArray) (w : World) (h : pandectref03_Made.f k a0 a1 a2 = some r) :
    Calls Tryd.prog 19 #[.string a0, .int .i64 a1, .int .i64 a2] w fun e w' => ∃ v0_ : Value, e = .returned (v0_) ∧ Kd.R Kd.string 9 w' w.heap.size (fun _ => True) v0_ r ∧ Below w.heap.size w w' := by
  have HB := Aside0.mk (Below.refl w.heap.size w)
  have H : (pandectref03_Made.l0 k a0 a1 a2 ([] : List ByteArray) ([] : List ByteArray) 0) = some r := h
  clear h
  have H' := Aside0.mk H
  clear H
  go_enter Tryd.func19, Tryd.ntmps19
  go_wp2
  go_loopg [7, 8, 9] k (fun kq v7 v8 v9 w' => ∃ (x7_1 : List ByteArray) (x8_1 : List ByteArray) (x9_1 : Int), v9 = .int .i64 x9_1 ∧ Aside0 (pandectref03_Made.l0 kq a0 a1 a2 x7_1 x8_1 x9_1 = some r) ∧ Aside0 (kq ≤ k) ∧ Aside0 (Kd.R Kd.string 9 w' w.heap.size (fun k_ => some k_ ≠ (v8 : Value).ownBlock) v7 x7_1) ∧ Aside0 (Kd.R Kd.string 9 w' w.heap.size (fun k_ => some k_ ≠ (v7 : Value).ownBlock) v8 x8_1) ∧ Aside0 (Below w.heap.size w w'))
  case atStart => exact ⟨(([] : List ByteArray)), (([] : List ByteArray)), (0), (by first | rfl | (simp; done) | (simp [*]; done)), H', ⟨Nat.le_refl _⟩, ⟨by first | exact Kd.R_nil _ _ _ _ _ | exact Kd.N_nil _ _ _ _ _ | exact Kd.V_nil _ _ _ _ _ | exact Kd.Q_nil _ _ _ _ _ | exact Kd.S_nil _ _ _ _ _⟩, ⟨by first | exact Kd.R_nil _ _ _ _ _ | exact Kd.N_nil _ _ _ _ _ | exact Kd.V_nil _ _ _ _ _ | exact Kd.Q_nil _ _ _ _ _ | exact Kd.S_nil _ _ _ _ _⟩, ⟨by first | exact upB HB.out | exact HB.out⟩⟩
  case round =>
    clear H'
    try clear c1
    try clear p2
    obtain ⟨x7_1, x8_1, x9_1, rfl, HA, HK1, HO_7, HO_8, HB⟩ := hrel
    cases gk with
    | zero => exact absurd HA.out (by simp [pandectref03_Made.l0])
    | succ k1 =>
      have H := HA.out
      clear HA
      simp only [pandectref03_Made.l0] at H
      replace H := Option.bind_eq_some_iff.mp H
      obtain ⟨t268, A40, H⟩ := H
      replace H : (if x9_1 < t268 then (pandectref03_Made.l1 k1 a0 a1 a2 x7_1 x8_1 x9_1 ([] : List ByteArray) 0) else (pandectref03_Made.l2 k1 x7_1 x8_1)) = some r := H
      have A4 := Aside0.mk A40
      clear A40
      by_cases c5 : x9_1 < t268
      · rw [if_pos c5] at H
        have c5b0 : decide (x9_1 < t268) = true := decide_eq_true c5
        clear c5
        have H' := Aside0.mk H
        clear H
        go_wp2_with (first | ((with_reducible refine gate_callee (f := 34) rfl ?_); refine goesL_ (some 20) rfl rfl Tryd.func34 (by kernel_rfl) rfl #[.int .i64 a1] rfl (by (try simp only [List.map_toArray, List.map_cons, List.map_nil]); first | done | rfl | (simp only [List.length_drop, List.length_take]; rfl)) ?_; (with_reducible refine (pandectref03_Power.calls k1 a1 t268 _ A4.out).mono ?_); rintro e w' ⟨rfl, ⟨nd, rfl⟩⟩; refine ⟨_, rfl, ?_⟩))
        go_loopg [7, 10, 11] k1 (fun kq v7 v10 v11 w' => ∃ (x7_2 : List ByteArray) (x10_2 : List ByteArray) (x11_2 : Int), v11 = .int .i64 x11_2 ∧ Aside0 (pandectref03_Made.l1 kq a0 a1 a2 x7_2 x8_1 x9_1 x10_2 x11_2 = some r) ∧ Aside0 (kq ≤ k1) ∧ Aside0 (Kd.R Kd.string 9 w' w.heap.size (fun k_ => some k_ ≠ (u8 : Value).ownBlock ∧ some k_ ≠ (v10 : Value).ownBlock) v7 x7_2) ∧ Aside0 (Kd.R Kd.string 9 w' w.heap.size (fun k_ => some k_ ≠ (v7 : Value).ownBlock ∧ some k_ ≠ (v10 : Value).ownBlock) u8 x8_1) ∧ Aside0 (Kd.R Kd.string 9 w' w.heap.size (fun k_ => some k_ ≠ (v7 : Value).ownBlock ∧ some k_ ≠ (u8 : Value).ownBlock) v10 x10_2) ∧ Aside0 (Below w.heap.size w w'))
        case atStart => exact ⟨(x7_1), (([] : List ByteArray)), (0), (by first | rfl | (simp; done) | (simp [*]; done)), H', ⟨Nat.le_refl _⟩, ⟨by (with_reducible repeat (first | apply Kd.R_alloc | apply Kd.R_drewN | apply Kd.R_drew)); exact Kd.R_mono HO_7.out (fun _ hk => ⟨hk, (by simp [Value.ownBlock])⟩)⟩, ⟨by (with_reducible repeat (first | apply Kd.R_alloc | apply Kd.R_drewN | apply Kd.R_drew)); exact Kd.R_mono HO_8.out (fun _ hk => ⟨hk, (by simp [Value.ownBlock])⟩)⟩, ⟨by first | exact Kd.R_nil _ _ _ _ _ | exact Kd.N_nil _ _ _ _ _ | exact Kd.V_nil _ _ _ _ _ | exact Kd.Q_nil _ _ _ _ _ | exact Kd.S_nil _ _ _ _ _⟩, ⟨by first | exact upB HB.out | exact HB.out⟩⟩
        case round =>
          clear H'
          try clear c1
          try clear p2
          try clear c3
          try clear c5
          try clear c5b0
          try clear p2
          obtain ⟨x7_2, x10_2, x11_2, rfl, HA, HK2, HO_7, HO_8, HO_10, HB⟩ := hrel
          cases gk with
          | zero => exact absurd HA.out (by simp [pandectref03_Made.l1])
          | succ k2 =>
            have H := HA.out
            clear HA
            simp only [pandectref03_Made.l1] at H
            by_cases c6 : x11_2 < 18
            · rw [if_pos c6] at H
              have c6b0 : decide (x11_2 < 18) = true := decide_eq_true c6
              clear c6
              replace H := Option.bind_eq_some_iff.mp H
              obtain ⟨t269, A70, H⟩ := H
              replace H : ((pandectref01_Decimal.f k2 x11_2).bind fun t270 => ((pandectref01_Joined.f k2 (([a0, t269, t270] : List ByteArray))).bind fun t274 => (if x7_2.length < 8796093022208 then ((some (x7_2 ++ [t274] : List ByteArray)).bind fun y275 => ((pandectref01_Sum.f k2 t274).bind fun t278 => ((pandectref03_chained.f k2 t278 a2).bind fun t279 => (if y275.length + t279.length < 8796093022208 then (if 15 < (t279.length : Int) then (if x10_2.length < 8796093022208 then (pandectref03_Made.l1 k2 a0 a1 a2 (y275 ++ t279) x8_1 x9_1 (x10_2 ++ [rdOf ByteArray.empty t279 15]) (wrap64 (x11_2 + 1))) else (none)) else (none)) else (none))))) else (none)))) = some r := H
              have A7 := Aside0.mk A70
              clear A70
              replace H := Option.bind_eq_some_iff.mp H
              obtain ⟨t270, A80, H⟩ := H
              replace H : ((pandectref01_Joined.f k2 (([a0, t269, t270] : List ByteArray))).bind fun t274 => (if x7_2.length < 8796093022208 then ((some (x7_2 ++ [t274] : List ByteArray)).bind fun y275 => ((pandectref01_Sum.f k2 t274).bind fun t278 => ((pandectref03_chained.f k2 t278 a2).bind fun t279 => (if y275.length + t279.length < 8796093022208 then (if 15 < (t279.length : Int) then (if x10_2.length < 8796093022208 then (pandectref03_Made.l1 k2 a0 a1 a2 (y275 ++ t279) x8_1 x9_1 (x10_2 ++ [rdOf ByteArray.empty t279 15]) (wrap64 (x11_2 + 1))) else (none)) else (none)) else (none))))) else (none))) = some r := H
              have A8 := Aside0.mk A80
              clear A80
              obtain ⟨y271, hy271⟩ : ∃ y_ : List ByteArray, y_ = (([a0, t269, t270] : List ByteArray)) := ⟨_, rfl⟩
              replace H : ((pandectref01_Joined.f k2 y271).bind fun t274 => (if x7_2.length < 8796093022208 then ((some (x7_2 ++ [t274] : List ByteArray)).bind fun y275 => ((pandectref01_Sum.f k2 t274).bind fun t278 => ((pandectref03_chained.f k2 t278 a2).bind fun t279 => (if y275.length + t279.length < 8796093022208 then (if 15 < (t279.length : Int) then (if x10_2.length < 8796093022208 then (pandectref03_Made.l1 k2 a0 a1 a2 (y275 ++ t279) x8_1 x9_1 (x10_2 ++ [rdOf ByteArray.empty t279 15]) (wrap64 (x11_2 + 1))) else (none)) else (none)) else (none))))) else (none))) = some r := by first | (rw [hy271]; with_reducible exact H) | (have H2_ := (Option.bind_some _ _).symm.trans H; rw [hy271]; with_reducible exact H2_) | (have H2_ := (Option.bind_some _ _).symm.trans H; with_reducible exact H2_) | with_reducible exact H | (rw [hy271]; exact H) | exact H
              have Ny271 := Aside0.mk hy271
              clear hy271
              replace H := Option.bind_eq_some_iff.mp H
              obtain ⟨t274, A90, H⟩ := H
              replace H : (if x7_2.length < 8796093022208 then ((some (x7_2 ++ [t274] : List ByteArray)).bind fun y275 => ((pandectref01_Sum.f k2 t274).bind fun t278 => ((pandectref03_chained.f k2 t278 a2).bind fun t279 => (if y275.length + t279.length < 8796093022208 then (if 15 < (t279.length : Int) then (if x10_2.length < 8796093022208 then (pandectref03_Made.l1 k2 a0 a1 a2 (y275 ++ t279) x8_1 x9_1 (x10_2 ++ [rdOf ByteArray.empty t279 15]) (wrap64 (x11_2 + 1))) else (none)) else (none)) else (none))))) else (none)) = some r := H
              have A9 := Aside0.mk A90
              clear A90
              by_cases c10 : x7_2.length < 8796093022208
              · rw [if_pos c10] at H
                have LMc10 := Aside0.mk c10
                clear c10
                obtain ⟨y275, hy275⟩ : ∃ y_ : List ByteArray, y_ = (x7_2 ++ [t274]) := ⟨_, rfl⟩
                replace H : ((pandectref01_Sum.f k2 t274).bind fun t278 => ((pandectref03_chained.f k2 t278 a2).bind fun t279 => (if y275.length + t279.length < 8796093022208 then (if 15 < (t279.length : Int) then (if x10_2.length < 8796093022208 then (pandectref03_Made.l1 k2 a0 a1 a2 (y275 ++ t279) x8_1 x9_1 (x10_2 ++ [rdOf ByteArray.empty t279 15]) (wrap64 (x11_2 + 1))) else (none)) else (none)) else (none)))) = some r := by first | (rw [hy275]; with_reducible exact H) | (have H2_ := (Option.bind_some _ _).symm.trans H; rw [hy275]; with_reducible exact H2_) | (have H2_ := (Option.bind_some _ _).symm.trans H; with_reducible exact H2_) | with_reducible exact H | (rw [hy275]; exact H) | exact H
                have Ny275 := Aside0.mk hy275
                clear hy275
                replace H := Option.bind_eq_some_iff.mp H
                obtain ⟨t278, A110, H⟩ := H
                replace H : ((pandectref03_chained.f k2 t278 a2).bind fun t279 => (if y275.length + t279.length < 8796093022208 then (if 15 < (t279.length : Int) then (if x10_2.length < 8796093022208 then (pandectref03_Made.l1 k2 a0 a1 a2 (y275 ++ t279) x8_1 x9_1 (x10_2 ++ [rdOf ByteArray.empty t279 15]) (wrap64 (x11_2 + 1))) else (none)) else (none)) else (none))) = some r := H
                have A11 := Aside0.mk A110
                clear A110
                replace H := Option.bind_eq_some_iff.mp H
                obtain ⟨t279, A120, H⟩ := H
                replace H : (if y275.length + t279.length < 8796093022208 then (if 15 < (t279.length : Int) then (if x10_2.length < 8796093022208 then (pandectref03_Made.l1 k2 a0 a1 a2 (y275 ++ t279) x8_1 x9_1 (x10_2 ++ [rdOf ByteArray.empty t279 15]) (wrap64 (x11_2 + 1))) else (none)) else (none)) else (none)) = some r := H
                have A12 := Aside0.mk A120
                clear A120
                by_cases c13 : y275.length + t279.length < 8796093022208
                · rw [if_pos c13] at H
                  have LMc13 := Aside0.mk c13
                  clear c13
                  obtain ⟨y282, hy282⟩ : ∃ y_ : List ByteArray, y_ = (y275 ++ t279) := ⟨_, rfl⟩
                  replace H : (if 15 < (t279.length : Int) then (if x10_2.length < 8796093022208 then (pandectref03_Made.l1 k2 a0 a1 a2 y282 x8_1 x9_1 (x10_2 ++ [rdOf ByteArray.empty t279 15]) (wrap64 (x11_2 + 1))) else (none)) else (none)) = some r := by first | (rw [hy282]; with_reducible exact H) | (have H2_ := (Option.bind_some _ _).symm.trans H; rw [hy282]; with_reducible exact H2_) | (have H2_ := (Option.bind_some _ _).symm.trans H; with_reducible exact H2_) | with_reducible exact H | (rw [hy282]; exact H) | exact H
                  have Ny282 := Aside0.mk hy282
                  clear hy282
                  by_cases c14 : 15 < (t279.length : Int)
                  · rw [if_pos c14] at H
                    have c14b0 : decide (15 < (t279.length : Int)) = true := decide_eq_true c14
                    have c14b1 : decide (15 < t279.length) = true := decide_eq_true (by omega)
                    clear c14
                    by_cases c15 : x10_2.length < 8796093022208
                    · rw [if_pos c15] at H
                      have LMc15 := Aside0.mk c15
                      clear c15
                      obtain ⟨y286, hy286⟩ : ∃ y_ : List ByteArray, y_ = (x10_2 ++ [rdOf ByteArray.empty t279 15]) := ⟨_, rfl⟩
                      replace H : (pandectref03_Made.l1 k2 a0 a1 a2 y282 x8_1 x9_1 y286 (wrap64 (x11_2 + 1))) = some r := by first | (rw [hy286]; with_reducible exact H) | (have H2_ := (Option.bind_some _ _).symm.trans H; rw [hy286]; with_reducible exact H2_) | (have H2_ := (Option.bind_some _ _).symm.trans H; with_reducible exact H2_) | with_reducible exact H | (rw [hy286]; exact H) | exact H
                      have Ny286 := Aside0.mk hy286
                      clear hy286
                      have H' := Aside0.mk H
                      clear H
                      have tk25_ : True := trivial
                      have tk26_ : True := trivial
                      go_wp2_with (first | ((with_reducible refine gate_callee (f := 36) rfl ?_); clear tk25_; refine goesL_ (some 30) rfl rfl Tryd.func36 (by kernel_rfl) rfl #[.int .i64 x9_1] rfl (by (try simp only [List.map_toArray, List.map_cons, List.map_nil]); first | done | rfl | (simp only [List.length_drop, List.length_take]; rfl)) ?_; (with_reducible refine (pandectref01_Decimal.calls k2 x9_1 t269 _ A7.out).mono ?_); rintro e w' ⟨rfl, ⟨nd, rfl⟩⟩; refine ⟨_, rfl, ?_⟩) | ((with_reducible refine gate_callee (f := 36) rfl ?_); clear tk26_; refine goesL_ (some 32) rfl rfl Tryd.func36 (by kernel_rfl) rfl #[.int .i64 x11_2] rfl (by (try simp only [List.map_toArray, List.map_cons, List.map_nil]); first | done | rfl | (simp only [List.length_drop, List.length_take]; rfl)) ?_; (with_reducible refine (pandectref01_Decimal.calls k2 x11_2 t270 _ A8.out).mono ?_); rintro e w' ⟨rfl, ⟨nd, rfl⟩⟩; refine ⟨_, rfl, ?_⟩) | ((with_reducible refine gate_dst (N := 33) rfl ?_); refine Kd.R_lit Kd.string _ 9 ?hg (N := 33) ?hd (xs := ([a0, t269, t270] : List ByteArray)) (inner := [.string a0, .string t269, .string t270]) (ok := fun _ => True) (okp := fun _ => True) ?hr ?hp (fun _ hk => hk) trivial (Below.refl _ _) (Nat.le_refl _) (by simp) ?_; (case hd => rfl); (case hg => rfl); (case hr => first | (go_simp; done) | (go_simp; rfl)); (case hp => exact (Reps.one (show Kd.M Kd.string _ _ _ a0 [.string a0] from rfl) (Reps.one (show Kd.M Kd.string _ _ _ t269 [.string t269] from rfl) (Reps.one (show Kd.M Kd.string _ _ _ t270 [.string t270] from rfl) (Reps.none _ _))))); intro v272 w16 ho17 hb hg_ hnew_; clear hg_ hnew_; (first | rw [← Ny271.out] at ho17 | (simp only [Int.reduceToNat] at ho17; rw [← Ny271.out] at ho17)); have n0_ := Aside0.mk (Kd.R_elder' (by exact upR HO_7.out) (Kd.R_base ho17) hb); have n1_ := Aside0.mk (Kd.R_elder' (by exact upR HO_8.out) (Kd.R_base ho17) hb); have n2_ := Aside0.mk (Kd.R_elder' (by exact upR HO_10.out) (Kd.R_base ho17) hb); have n3_ := Aside0.mk (Kd.R_lower (Kd.R_new' (Kd.R_new' (Kd.R_new' ho17 (Kd.R_lt (by exact upR HO_7.out))) (Kd.R_lt (by exact upR HO_8.out))) (Kd.R_lt (by exact upR HO_10.out))) (below_size (by first | exact upB HB.out | exact HB.out))); have n4_ := Aside0.mk (below_step (by first | exact upB HB.out | exact HB.out) hb); clear HO_7; clear HO_8; clear HO_10; clear HB; have HO_7 := n0_; have HO_8 := n1_; have HO_10 := n2_; have HO273 := n3_; have HB := n4_; clear n0_ n1_ n2_ n3_ n4_; clear hb ho17; obtain ⟨Ao18, co18, eo18⟩ := Kd.R_slice HO273.out; subst eo18) | ((with_reducible refine gate_callee (f := 35) rfl ?_); refine goesL_ (some 34) rfl rfl Tryd.func35 (by kernel_rfl) rfl #[.slice Ao18 y271.length co18] rfl (by (try simp only [List.map_toArray, List.map_cons, List.map_nil]); first | done | rfl | (simp only [List.length_drop, List.length_take]; rfl)) ?_; (with_reducible refine (pandectref01_Joined.calls k2 _ _ y271 t274 _ ?side1 ?side2 A9.out).mono ?_); (case side1 => exact upC ((Kd.R_reads' HO273.out).2.2)); (case side2 => exact (Kd.R_reads' HO273.out).2.1); rintro e w19 ⟨rfl, hb⟩; refine ⟨_, rfl, ?_⟩; have n0_ := Aside0.mk (Kd.R_below (by exact upR HO_7.out) hb); have n1_ := Aside0.mk (Kd.R_below (by exact upR HO_8.out) hb); have n2_ := Aside0.mk (Kd.R_below (by exact upR HO_10.out) hb); have n3_ := Aside0.mk (Kd.R_below (by exact upR HO273.out) hb); have n4_ := Aside0.mk (below_step (by first | exact upB HB.out | exact HB.out) hb); clear HO_7; clear HO_8; clear HO_10; clear HO273; clear HB; have HO_7 := n0_; have HO_8 := n1_; have HO_10 := n2_; have HO273 := n3_; have HB := n4_; clear n0_ n1_ n2_ n3_ n4_; (try clear hb); (try clear hb2); (try clear hk); (try clear hi)) | ((with_reducible refine gate_builtin (b := .append) (xs := #[.tmp 35, .tmp 37]) rfl ?_); at_builtin; refine Kd.R_append Kd.string (w0 := w) w.heap.size rfl (.tmp 35) (.tmp 37) 27 9 (.string ⟨#[]⟩) 16 rfl Tryd.underlying27 info9 rfl (by decide) (by omega) u7 x7_2 t274 [.string t274] (fun k_ => some k_ ≠ (u8 : Value).ownBlock ∧ some k_ ≠ (u10 : Value).ownBlock ∧ some k_ ≠ (.slice Ao18 y271.length co18 : Value).ownBlock) (fun _ => False) rfl rfl ?aP (fun _ hk => hk.elim) ?aF ?aO ?aB ?aS ?aL ?_; (case aP => exact rfl); (case aB => exact (by first | exact upB HB.out | exact HB.out)); (case aF => exact (fun k_ hk => ⟨Kd.fresh' (Kd.R_lt (by exact upR HO_8.out)) k_ hk, Kd.fresh' (Kd.R_lt (by exact upR HO_10.out)) k_ hk, Kd.fresh' (Kd.R_lt (by exact upR HO273.out)) k_ hk⟩)); (case aO => exact (by (with_reducible repeat (first | apply Kd.R_alloc | apply Kd.R_drewN | apply Kd.R_drew)); exact Kd.R_mono HO_7.out (fun _ hk => ⟨hk.1.1, ⟨hk.1.2, hk.2⟩⟩))); (case aS => exact (below_size (by first | exact upB HB.out | exact HB.out))); (case aL => have := LMc10.out; omega); intro v276 w20 ho hb hg hat; rw [← Ny275.out] at ho; have n0_ := Aside0.mk (Kd.R_after (ok := (fun k_ => some k_ ≠ (u10 : Value).ownBlock ∧ some k_ ≠ (.slice Ao18 y271.length co18 : Value).ownBlock)) (by (with_reducible repeat (first | apply Kd.R_alloc | apply Kd.R_drewN | apply Kd.R_drew)); exact Kd.R_mono HO_8.out (fun _ hk => ⟨⟨hk.1.2, hk.2⟩, hk.1.1⟩)) hg hat); have n1_ := Aside0.mk (Kd.R_after (ok := (fun k_ => some k_ ≠ (u8 : Value).ownBlock ∧ some k_ ≠ (.slice Ao18 y271.length co18 : Value).ownBlock)) (by (with_reducible repeat (first | apply Kd.R_alloc | apply Kd.R_drewN | apply Kd.R_drew)); exact Kd.R_mono HO_10.out (fun _ hk => ⟨⟨hk.1.2, hk.2⟩, hk.1.1⟩)) hg hat); have n2_ := Aside0.mk (Kd.R_after (ok := (fun k_ => some k_ ≠ (u8 : Value).ownBlock ∧ some k_ ≠ (u10 : Value).ownBlock)) (by (with_reducible repeat (first | apply Kd.R_alloc | apply Kd.R_drewN | apply Kd.R_drew)); exact Kd.R_mono HO273.out (fun _ hk => ⟨⟨hk.1.2, hk.2⟩, hk.1.1.2⟩)) hg hat); have n3_ := Aside0.mk (hb); have n4_ := Aside0.mk (ho); clear HO_8; clear HO_10; clear HO273; clear HB; clear HO_7; have HO_8 := n0_; have HO_10 := n1_; have HO273 := n2_; have HB := n3_; have HO277 := n4_; clear n0_ n1_ n2_ n3_ n4_; clear ho hb hg hat) | ((with_reducible refine gate_callee (f := 21) rfl ?_); refine goesL_ (some 40) rfl rfl Tryd.func21 (by kernel_rfl) rfl #[.string t274] rfl (by (try simp only [List.map_toArray, List.map_cons, List.map_nil]); first | done | rfl | (simp only [List.length_drop, List.length_take]; rfl)) ?_; (with_reducible refine (pandectref01_Sum.calls k2 t274 t278 _ A11.out).mono ?_); rintro e w' ⟨rfl, ⟨nd, rfl⟩⟩; refine ⟨_, rfl, ?_⟩) | ((with_reducible refine gate_callee (f := 37) rfl ?_); refine goesL_ (some 42) rfl rfl Tryd.func37 (by kernel_rfl) rfl #[.string t278, .int .i64 a2] rfl (by (try simp only [List.map_toArray, List.map_cons, List.map_nil]); first | done | rfl | (simp only [List.length_drop, List.length_take]; rfl)) ?_; (with_reducible refine (pandectref03_chained.calls k2 t278 a2 t279 _ A12.out).mono ?_); rintro e w21 ⟨v280, rfl, ho0, hb⟩; refine ⟨_, rfl, ?_⟩; have n0_ := Aside0.mk (Kd.R_elder' (by exact upR HO_8.out) (Kd.R_base ho0) hb); have n1_ := Aside0.mk (Kd.R_elder' (by exact upR HO_10.out) (Kd.R_base ho0) hb); have n2_ := Aside0.mk (Kd.R_elder' (by exact upR HO273.out) (Kd.R_base ho0) hb); have n3_ := Aside0.mk (Kd.R_elder' (by exact upR HO277.out) (Kd.R_base ho0) hb); have n4_ := Aside0.mk (Kd.R_lower (Kd.R_new' (Kd.R_new' (Kd.R_new' (Kd.R_new' ho0 (Kd.R_lt (by exact upR HO_8.out))) (Kd.R_lt (by exact upR HO_10.out))) (Kd.R_lt (by exact upR HO273.out))) (Kd.R_lt (by exact upR HO277.out))) (below_size (by first | exact upB HB.out | exact HB.out))); have n5_ := Aside0.mk (below_step (by first | exact upB HB.out | exact HB.out) hb); clear HO_8; clear HO_10; clear HO273; clear HO277; clear HB; have HO_8 := n0_; have HO_10 := n1_; have HO273 := n2_; have HO277 := n3_; have HO281 := n4_; have HB := n5_; clear n0_ n1_ n2_ n3_ n4_ n5_; (try clear hb); (try clear hb2); (try clear hk); (try clear hi); (try clear ho0); obtain ⟨Ao23, co23, eo23⟩ := Kd.R_slice HO281.out; subst eo23) | ((with_reducible refine gate_builtin (b := .append) (xs := #[.tmp 43, .tmp 44]) rfl ?_); at_builtin; refine Kd.R_append_rows Kd.string (w0 := w) w.heap.size rfl (.tmp 43) (.tmp 44) 27 9 (.string ⟨#[]⟩) 16 rfl Tryd.underlying27 info9 rfl (by decide) (by omega) v276 y275 t279 _ _ _ (fun k_ => some k_ ≠ (u8 : Value).ownBlock ∧ some k_ ≠ (u10 : Value).ownBlock ∧ some k_ ≠ (.slice Ao18 y271.length co18 : Value).ownBlock ∧ some k_ ≠ (.slice Ao23 t279.length co23 : Value).ownBlock) (fun _ => False) rfl rfl ?aO ?aR (fun _ _ h => h) (fun _ h => h.elim) ?aF ?aB ?aS ?aL ?_; (case aR => exact upC ((Kd.R_reads' HO281.out).2.2)); (case aB => exact (by first | exact upB HB.out | exact HB.out)); (case aF => exact (fun k_ hk => ⟨Kd.fresh' (Kd.R_lt (by exact upR HO_8.out)) k_ hk, Kd.fresh' (Kd.R_lt (by exact upR HO_10.out)) k_ hk, Kd.fresh' (Kd.R_lt (by exact upR HO273.out)) k_ hk, Kd.fresh' (Kd.R_lt (by exact upR HO281.out)) k_ hk⟩)); (case aO => exact (by (with_reducible repeat (first | apply Kd.R_alloc | apply Kd.R_drewN | apply Kd.R_drew)); exact Kd.R_mono HO277.out (fun _ hk => ⟨hk.1.1, ⟨hk.1.2.1, ⟨hk.1.2.2, hk.2⟩⟩⟩))); (case aS => exact (below_size (by first | exact upB HB.out | exact HB.out))); (case aL => have := LMc13.out; omega); intro v283 w22 ho hb hg hat; rw [← Ny282.out] at ho; have n0_ := Aside0.mk (Kd.R_after (ok := (fun k_ => some k_ ≠ (u10 : Value).ownBlock ∧ some k_ ≠ (.slice Ao18 y271.length co18 : Value).ownBlock ∧ some k_ ≠ (.slice Ao23 t279.length co23 : Value).ownBlock)) (by (with_reducible repeat (first | apply Kd.R_alloc | apply Kd.R_drewN | apply Kd.R_drew)); exact Kd.R_mono HO_8.out (fun _ hk => ⟨⟨hk.1.1.1, ⟨hk.1.1.2, hk.2⟩⟩, hk.1.2⟩)) hg hat); have n1_ := Aside0.mk (Kd.R_after (ok := (fun k_ => some k_ ≠ (u8 : Value).ownBlock ∧ some k_ ≠ (.slice Ao18 y271.length co18 : Value).ownBlock ∧ some k_ ≠ (.slice Ao23 t279.length co23 : Value).ownBlock)) (by (with_reducible repeat (first | apply Kd.R_alloc | apply Kd.R_drewN | apply Kd.R_drew)); exact Kd.R_mono HO_10.out (fun _ hk => ⟨⟨hk.1.1.1, ⟨hk.1.1.2, hk.2⟩⟩, hk.1.2⟩)) hg hat); have n2_ := Aside0.mk (Kd.R_after (ok := (fun k_ => some k_ ≠ (u8 : Value).ownBlock ∧ some k_ ≠ (u10 : Value).ownBlock ∧ some k_ ≠ (.slice Ao23 t279.length co23 : Value).ownBlock)) (by (with_reducible repeat (first | apply Kd.R_alloc | apply Kd.R_drewN | apply Kd.R_drew)); exact Kd.R_mono HO273.out (fun _ hk => ⟨⟨hk.1.1.1, ⟨hk.1.1.2, hk.2⟩⟩, hk.1.2⟩)) hg hat); have n3_ := Aside0.mk (Kd.R_after (ok := (fun k_ => some k_ ≠ (u8 : Value).ownBlock ∧ some k_ ≠ (u10 : Value).ownBlock ∧ some k_ ≠ (.slice Ao18 y271.length co18 : Value).ownBlock)) (by (with_reducible repeat (first | apply Kd.R_alloc | apply Kd.R_drewN | apply Kd.R_drew)); exact Kd.R_mono HO281.out (fun _ hk => ⟨⟨hk.1.1.1.2, ⟨hk.1.1.2, hk.1.2⟩⟩, hk.2⟩)) hg hat); have n4_ := Aside0.mk (hb); have n5_ := Aside0.mk (ho); clear HO_8; clear HO_10; clear HO273; clear HO281; clear HB; clear HO277; have HO_8 := n0_; have HO_10 := n1_; have HO273 := n2_; have HO281 := n3_; have HB := n4_; have HO284 := n5_; clear n0_ n1_ n2_ n3_ n4_ n5_; clear ho hb hg hat; have p285 : 0 ≤ (15 : Int) := (by omega); have q285 : 15 < (t279.length : Int) := of_decide_eq_true (by first | (with_reducible assumption) | assumption); obtain ⟨ad285, e285, hx285_0⟩ := Kd.at_string (Kd.R_reads' HO281.out).2.2 15 p285 q285; cases e285; (try simp only [show (15 : Int).toNat = 15 from rfl, Nat.reduceMul, Nat.reduceEqDiff, Go.Addr.add, ↓reduceIte] at hx285_0); have qi285 : (15 < t279.length) = True := eq_true (by omega); (try rw [show ((15 : Int)).toNat = 15 from rfl] at hx285_0); replace p285 := eq_true p285; replace q285 := eq_true q285) | ((with_reducible refine gate_builtin (b := .append) (xs := #[.tmp 46, .tmp 50]) rfl ?_); at_builtin; refine Kd.R_append Kd.string (w0 := w) w.heap.size rfl (.tmp 46) (.tmp 50) 27 9 (.string ⟨#[]⟩) 16 rfl Tryd.underlying27 info9 rfl (by decide) (by omega) u10 x10_2 (rdOf ByteArray.empty t279 15) [.string (rdOf ByteArray.empty t279 15)] (fun k_ => some k_ ≠ (u8 : Value).ownBlock ∧ some k_ ≠ (.slice Ao18 y271.length co18 : Value).ownBlock ∧ some k_ ≠ (.slice (some ad285) t279.length co23 : Value).ownBlock ∧ some k_ ≠ (v283 : Value).ownBlock) (fun _ => False) rfl rfl ?aP (fun _ hk => hk.elim) ?aF ?aO ?aB ?aS ?aL ?_; (case aP => exact rfl); (case aB => exact (by first | exact upB HB.out | exact HB.out)); (case aF => exact (fun k_ hk => ⟨Kd.fresh' (Kd.R_lt (by exact upR HO_8.out)) k_ hk, Kd.fresh' (Kd.R_lt (by exact upR HO273.out)) k_ hk, Kd.fresh' (Kd.R_lt (by exact upR HO281.out)) k_ hk, Kd.fresh' (Kd.R_lt (by exact upR HO284.out)) k_ hk⟩)); (case aO => exact (by (with_reducible repeat (first | apply Kd.R_alloc | apply Kd.R_drewN | apply Kd.R_drew)); exact Kd.R_mono HO_10.out (fun _ hk => ⟨hk.1.1, ⟨hk.1.2.1, ⟨hk.1.2.2, hk.2⟩⟩⟩))); (case aS => exact (below_size (by first | exact upB HB.out | exact HB.out))); (case aL => have := LMc15.out; omega); intro v287 w24 ho hb hg hat; rw [← Ny286.out] at ho; have n0_ := Aside0.mk (Kd.R_after (ok := (fun k_ => some k_ ≠ (.slice Ao18 y271.length co18 : Value).ownBlock ∧ some k_ ≠ (.slice (some ad285) t279.length co23 : Value).ownBlock ∧ some k_ ≠ (v283 : Value).ownBlock)) (by (with_reducible repeat (first | apply Kd.R_alloc | apply Kd.R_drewN | apply Kd.R_drew)); exact Kd.R_mono HO_8.out (fun _ hk => ⟨⟨hk.1.2.1, ⟨hk.1.2.2, hk.2⟩⟩, hk.1.1⟩)) hg hat); have n1_ := Aside0.mk (Kd.R_after (ok := (fun k_ => some k_ ≠ (u8 : Value).ownBlock ∧ some k_ ≠ (.slice (some ad285) t279.length co23 : Value).ownBlock ∧ some k_ ≠ (v283 : Value).ownBlock)) (by (with_reducible repeat (first | apply Kd.R_alloc | apply Kd.R_drewN | apply Kd.R_drew)); exact Kd.R_mono HO273.out (fun _ hk => ⟨⟨hk.1.1, ⟨hk.1.2.2, hk.2⟩⟩, hk.1.2.1⟩)) hg hat); have n2_ := Aside0.mk (Kd.R_after (ok := (fun k_ => some k_ ≠ (u8 : Value).ownBlock ∧ some k_ ≠ (.slice Ao18 y271.length co18 : Value).ownBlock ∧ some k_ ≠ (v283 : Value).ownBlock)) (by (with_reducible repeat (first | apply Kd.R_alloc | apply Kd.R_drewN | apply Kd.R_drew)); exact Kd.R_mono HO281.out (fun _ hk => ⟨⟨hk.1.1, ⟨hk.1.2.2, hk.2⟩⟩, hk.1.2.1⟩)) hg hat); have n3_ := Aside0.mk (Kd.R_after (ok := (fun k_ => some k_ ≠ (u8 : Value).ownBlock ∧ some k_ ≠ (.slice Ao18 y271.length co18 : Value).ownBlock ∧ some k_ ≠ (.slice (some ad285) t279.length co23 : Value).ownBlock)) (by (with_reducible repeat (first | apply Kd.R_alloc | apply Kd.R_drewN | apply Kd.R_drew)); exact Kd.R_mono HO284.out (fun _ hk => ⟨⟨hk.1, ⟨hk.2.2.1, hk.2.2.2⟩⟩, hk.2.1⟩)) hg hat); have n4_ := Aside0.mk (hb); have n5_ := Aside0.mk (ho); clear HO_8; clear HO273; clear HO281; clear HO284; clear HB; clear HO_10; have HO_8 := n0_; have HO273 := n1_; have HO281 := n2_; have HO284 := n3_; have HB := n4_; have HO288 := n5_; clear n0_ n1_ n2_ n3_ n4_ n5_; clear ho hb hg hat))
                      go_roundg k2
                      case measure => have := HK1.out; have := HK2.out; omega
                      case rel => exact ⟨(y282), (y286), (wrap64 (x11_2 + 1)), (by first | rfl | (simp; done) | (simp [*]; done)), H', ⟨by have := HK1.out; have := HK2.out; omega⟩, ⟨by (with_reducible repeat (first | apply Kd.R_alloc | apply Kd.R_drewN | apply Kd.R_drew)); exact Kd.R_mono HO284.out (fun _ hk => ⟨hk.1.1, hk.2⟩)⟩, ⟨by (with_reducible repeat (first | apply Kd.R_alloc | apply Kd.R_drewN | apply Kd.R_drew)); exact Kd.R_mono HO_8.out (fun _ hk => ⟨hk.1.2.2, hk.2⟩)⟩, ⟨by (with_reducible repeat (first | apply Kd.R_alloc | apply Kd.R_drewN | apply Kd.R_drew)); exact Kd.R_mono HO288.out (fun _ hk => ⟨hk.2.2.2, hk.1⟩)⟩, ⟨by first | exact upB HB.out | exact HB.out⟩⟩
                    · rw [if_neg c15] at H
                      exact absurd H (by simp)
                  · rw [if_neg c14] at H
                    exact absurd H (by simp)
                · rw [if_neg c13] at H
                  exact absurd H (by simp)
              · rw [if_neg c10] at H
                exact absurd H (by simp)
            · rw [if_neg c6] at H
              have c6b0 : decide (x11_2 < 18) = false := decide_eq_false c6
              clear c6
              replace H := Option.bind_eq_some_iff.mp H
              obtain ⟨t289, A270, H⟩ := H
              replace H : ((pandectref01_Sum.f k2 t289).bind fun t290 => ((pandectref01_Joined.f k2 (([(⟨#[108, 101, 97, 102]⟩ : ByteArray), t290] : List ByteArray))).bind fun t294 => ((some (([t289, t294] : List ByteArray) : List ByteArray)).bind fun y295 => (if x7_2.length + y295.length < 8796093022208 then ((pandectref01_Sum.f k2 t294).bind fun t301 => (if x8_1.length < 8796093022208 then (pandectref03_Made.l0 k2 a0 a1 a2 (x7_2 ++ y295) (x8_1 ++ [t301]) (wrap64 (x9_1 + 1))) else (none))) else (none))))) = some r := H
              have A27 := Aside0.mk A270
              clear A270
              replace H := Option.bind_eq_some_iff.mp H
              obtain ⟨t290, A280, H⟩ := H
              replace H : ((pandectref01_Joined.f k2 (([(⟨#[108, 101, 97, 102]⟩ : ByteArray), t290] : List ByteArray))).bind fun t294 => ((some (([t289, t294] : List ByteArray) : List ByteArray)).bind fun y295 => (if x7_2.length + y295.length < 8796093022208 then ((pandectref01_Sum.f k2 t294).bind fun t301 => (if x8_1.length < 8796093022208 then (pandectref03_Made.l0 k2 a0 a1 a2 (x7_2 ++ y295) (x8_1 ++ [t301]) (wrap64 (x9_1 + 1))) else (none))) else (none)))) = some r := H
              have A28 := Aside0.mk A280
              clear A280
              obtain ⟨y291, hy291⟩ : ∃ y_ : List ByteArray, y_ = (([(⟨#[108, 101, 97, 102]⟩ : ByteArray), t290] : List ByteArray)) := ⟨_, rfl⟩
              replace H : ((pandectref01_Joined.f k2 y291).bind fun t294 => ((some (([t289, t294] : List ByteArray) : List ByteArray)).bind fun y295 => (if x7_2.length + y295.length < 8796093022208 then ((pandectref01_Sum.f k2 t294).bind fun t301 => (if x8_1.length < 8796093022208 then (pandectref03_Made.l0 k2 a0 a1 a2 (x7_2 ++ y295) (x8_1 ++ [t301]) (wrap64 (x9_1 + 1))) else (none))) else (none)))) = some r := by first | (rw [hy291]; with_reducible exact H) | (have H2_ := (Option.bind_some _ _).symm.trans H; rw [hy291]; with_reducible exact H2_) | (have H2_ := (Option.bind_some _ _).symm.trans H; with_reducible exact H2_) | with_reducible exact H | (rw [hy291]; exact H) | exact H
              have Ny291 := Aside0.mk hy291
              clear hy291
              replace H := Option.bind_eq_some_iff.mp H
              obtain ⟨t294, A290, H⟩ := H
              replace H : ((some (([t289, t294] : List ByteArray) : List ByteArray)).bind fun y295 => (if x7_2.length + y295.length < 8796093022208 then ((pandectref01_Sum.f k2 t294).bind fun t301 => (if x8_1.length < 8796093022208 then (pandectref03_Made.l0 k2 a0 a1 a2 (x7_2 ++ y295) (x8_1 ++ [t301]) (wrap64 (x9_1 + 1))) else (none))) else (none))) = some r := H
              have A29 := Aside0.mk A290
              clear A290
              obtain ⟨y295, hy295⟩ : ∃ y_ : List ByteArray, y_ = (([t289, t294] : List ByteArray)) := ⟨_, rfl⟩
              replace H : (if x7_2.length + y295.length < 8796093022208 then ((pandectref01_Sum.f k2 t294).bind fun t301 => (if x8_1.length < 8796093022208 then (pandectref03_Made.l0 k2 a0 a1 a2 (x7_2 ++ y295) (x8_1 ++ [t301]) (wrap64 (x9_1 + 1))) else (none))) else (none)) = some r := by first | (rw [hy295]; with_reducible exact H) | (have H2_ := (Option.bind_some _ _).symm.trans H; rw [hy295]; with_reducible exact H2_) | (have H2_ := (Option.bind_some _ _).symm.trans H; with_reducible exact H2_) | with_reducible exact H | (rw [hy295]; exact H) | exact H
              have Ny295 := Aside0.mk hy295
              clear hy295
              by_cases c30 : x7_2.length + y295.length < 8796093022208
              · rw [if_pos c30] at H
                have LMc30 := Aside0.mk c30
                clear c30
                obtain ⟨y298, hy298⟩ : ∃ y_ : List ByteArray, y_ = (x7_2 ++ y295) := ⟨_, rfl⟩
                replace H : ((pandectref01_Sum.f k2 t294).bind fun t301 => (if x8_1.length < 8796093022208 then (pandectref03_Made.l0 k2 a0 a1 a2 y298 (x8_1 ++ [t301]) (wrap64 (x9_1 + 1))) else (none))) = some r := by first | (rw [hy298]; with_reducible exact H) | (have H2_ := (Option.bind_some _ _).symm.trans H; rw [hy298]; with_reducible exact H2_) | (have H2_ := (Option.bind_some _ _).symm.trans H; with_reducible exact H2_) | with_reducible exact H | (rw [hy298]; exact H) | exact H
                have Ny298 := Aside0.mk hy298
                clear hy298
                replace H := Option.bind_eq_some_iff.mp H
                obtain ⟨t301, A310, H⟩ := H
                replace H : (if x8_1.length < 8796093022208 then (pandectref03_Made.l0 k2 a0 a1 a2 y298 (x8_1 ++ [t301]) (wrap64 (x9_1 + 1))) else (none)) = some r := H
                have A31 := Aside0.mk A310
                clear A310
                by_cases c32 : x8_1.length < 8796093022208
                · rw [if_pos c32] at H
                  have LMc32 := Aside0.mk c32
                  clear c32
                  obtain ⟨y302, hy302⟩ : ∃ y_ : List ByteArray, y_ = (x8_1 ++ [t301]) := ⟨_, rfl⟩
                  replace H : (pandectref03_Made.l0 k2 a0 a1 a2 y298 y302 (wrap64 (x9_1 + 1))) = some r := by first | (rw [hy302]; with_reducible exact H) | (have H2_ := (Option.bind_some _ _).symm.trans H; rw [hy302]; with_reducible exact H2_) | (have H2_ := (Option.bind_some _ _).symm.trans H; with_reducible exact H2_) | with_reducible exact H | (rw [hy302]; exact H) | exact H
                  have Ny302 := Aside0.mk hy302
                  clear hy302
                  have H' := Aside0.mk H
                  clear H
                  obtain ⟨Ao33, co33, eo33⟩ := Kd.R_slice HO_10.out
                  subst eo33
                  have tk44_ : True := trivial
                  have tk45_ : True := trivial
                  have tk46_ : True := trivial
                  have tk47_ : True := trivial
                  go_wp2_with (first | ((with_reducible refine gate_callee (f := 35) rfl ?_); clear tk44_; refine goesL_ (some 53) rfl rfl Tryd.func35 (by kernel_rfl) rfl #[.slice Ao33 x10_2.length co33] rfl (by (try simp only [List.map_toArray, List.map_cons, List.map_nil]); first | done | rfl | (simp only [List.length_drop, List.length_take]; rfl)) ?_; (with_reducible refine (pandectref01_Joined.calls k2 _ _ x10_2 t289 _ ?side1 ?side2 A27.out).mono ?_); (case side1 => exact upC ((Kd.R_reads' HO_10.out).2.2)); (case side2 => exact (Kd.R_reads' HO_10.out).2.1); rintro e w34 ⟨rfl, hb⟩; refine ⟨_, rfl, ?_⟩; have n0_ := Aside0.mk (Kd.R_below (by exact upR HO_7.out) hb); have n1_ := Aside0.mk (Kd.R_below (by exact upR HO_8.out) hb); have n2_ := Aside0.mk (Kd.R_below (by exact upR HO_10.out) hb); have n3_ := Aside0.mk (below_step (by first | exact upB HB.out | exact HB.out) hb); clear HO_7; clear HO_8; clear HO_10; clear HB; have HO_7 := n0_; have HO_8 := n1_; have HO_10 := n2_; have HB := n3_; clear n0_ n1_ n2_ n3_; (try clear hb); (try clear hb2); (try clear hk); (try clear hi)) | ((with_reducible refine gate_callee (f := 21) rfl ?_); clear tk45_; refine goesL_ (some 55) rfl rfl Tryd.func21 (by kernel_rfl) rfl #[.string t289] rfl (by (try simp only [List.map_toArray, List.map_cons, List.map_nil]); first | done | rfl | (simp only [List.length_drop, List.length_take]; rfl)) ?_; (with_reducible refine (pandectref01_Sum.calls k2 t289 t290 _ A28.out).mono ?_); rintro e w' ⟨rfl, ⟨nd, rfl⟩⟩; refine ⟨_, rfl, ?_⟩) | ((with_reducible refine gate_dst (N := 56) rfl ?_); refine Kd.R_lit Kd.string _ 9 ?hg (N := 56) ?hd (xs := ([(⟨#[108, 101, 97, 102]⟩ : ByteArray), t290] : List ByteArray)) (inner := [.string (⟨#[108, 101, 97, 102]⟩ : ByteArray), .string t290]) (ok := fun _ => True) (okp := fun _ => True) ?hr ?hp (fun _ hk => hk) trivial (Below.refl _ _) (Nat.le_refl _) (by simp) ?_; (case hd => rfl); (case hg => rfl); (case hr => first | (go_simp; done) | (go_simp; rfl)); (case hp => exact (Reps.one (show Kd.M Kd.string _ _ _ (⟨#[108, 101, 97, 102]⟩ : ByteArray) [.string (⟨#[108, 101, 97, 102]⟩ : ByteArray)] from rfl) (Reps.one (show Kd.M Kd.string _ _ _ t290 [.string t290] from rfl) (Reps.none _ _)))); intro v292 w35 ho36 hb hg_ hnew_; clear hg_ hnew_; (first | rw [← Ny291.out] at ho36 | (simp only [Int.reduceToNat] at ho36; rw [← Ny291.out] at ho36)); have n0_ := Aside0.mk (Kd.R_elder' (by exact upR HO_7.out) (Kd.R_base ho36) hb); have n1_ := Aside0.mk (Kd.R_elder' (by exact upR HO_8.out) (Kd.R_base ho36) hb); have n2_ := Aside0.mk (Kd.R_elder' (by exact upR HO_10.out) (Kd.R_base ho36) hb); have n3_ := Aside0.mk (Kd.R_lower (Kd.R_new' (Kd.R_new' (Kd.R_new' ho36 (Kd.R_lt (by exact upR HO_7.out))) (Kd.R_lt (by exact upR HO_8.out))) (Kd.R_lt (by exact upR HO_10.out))) (below_size (by first | exact upB HB.out | exact HB.out))); have n4_ := Aside0.mk (below_step (by first | exact upB HB.out | exact HB.out) hb); clear HO_7; clear HO_8; clear HO_10; clear HB; have HO_7 := n0_; have HO_8 := n1_; have HO_10 := n2_; have HO293 := n3_; have HB := n4_; clear n0_ n1_ n2_ n3_ n4_; clear hb ho36; obtain ⟨Ao37, co37, eo37⟩ := Kd.R_slice HO293.out; subst eo37) | ((with_reducible refine gate_callee (f := 35) rfl ?_); clear tk46_; refine goesL_ (some 57) rfl rfl Tryd.func35 (by kernel_rfl) rfl #[.slice Ao37 y291.length co37] rfl (by (try simp only [List.map_toArray, List.map_cons, List.map_nil]); first | done | rfl | (simp only [List.length_drop, List.length_take]; rfl)) ?_; (with_reducible refine (pandectref01_Joined.calls k2 _ _ y291 t294 _ ?side1 ?side2 A29.out).mono ?_); (case side1 => exact upC ((Kd.R_reads' HO293.out).2.2)); (case side2 => exact (Kd.R_reads' HO293.out).2.1); rintro e w38 ⟨rfl, hb⟩; refine ⟨_, rfl, ?_⟩; have n0_ := Aside0.mk (Kd.R_below (by exact upR HO_7.out) hb); have n1_ := Aside0.mk (Kd.R_below (by exact upR HO_8.out) hb); have n2_ := Aside0.mk (Kd.R_below (by exact upR HO_10.out) hb); have n3_ := Aside0.mk (Kd.R_below (by exact upR HO293.out) hb); have n4_ := Aside0.mk (below_step (by first | exact upB HB.out | exact HB.out) hb); clear HO_7; clear HO_8; clear HO_10; clear HO293; clear HB; have HO_7 := n0_; have HO_8 := n1_; have HO_10 := n2_; have HO293 := n3_; have HB := n4_; clear n0_ n1_ n2_ n3_ n4_; (try clear hb); (try clear hb2); (try clear hk); (try clear hi)) | ((with_reducible refine gate_dst (N := 61) rfl ?_); refine Kd.R_lit Kd.string _ 9 ?hg (N := 61) ?hd (xs := ([t289, t294] : List ByteArray)) (inner := [.string t289, .string t294]) (ok := fun _ => True) (okp := fun _ => True) ?hr ?hp (fun _ hk => hk) trivial (Below.refl _ _) (Nat.le_refl _) (by simp) ?_; (case hd => rfl); (case hg => rfl); (case hr => first | (go_simp; done) | (go_simp; rfl)); (case hp => exact (Reps.one (show Kd.M Kd.string _ _ _ t289 [.string t289] from rfl) (Reps.one (show Kd.M Kd.string _ _ _ t294 [.string t294] from rfl) (Reps.none _ _)))); intro v296 w39 ho40 hb hg_ hnew_; clear hg_ hnew_; (first | rw [← Ny295.out] at ho40 | (simp only [Int.reduceToNat] at ho40; rw [← Ny295.out] at ho40)); have n0_ := Aside0.mk (Kd.R_elder' (by exact upR HO_7.out) (Kd.R_base ho40) hb); have n1_ := Aside0.mk (Kd.R_elder' (by exact upR HO_8.out) (Kd.R_base ho40) hb); have n2_ := Aside0.mk (Kd.R_elder' (by exact upR HO_10.out) (Kd.R_base ho40) hb); have n3_ := Aside0.mk (Kd.R_elder' (by exact upR HO293.out) (Kd.R_base ho40) hb); have n4_ := Aside0.mk (Kd.R_lower (Kd.R_new' (Kd.R_new' (Kd.R_new' (Kd.R_new' ho40 (Kd.R_lt (by exact upR HO_7.out))) (Kd.R_lt (by exact upR HO_8.out))) (Kd.R_lt (by exact upR HO_10.out))) (Kd.R_lt (by exact upR HO293.out))) (below_size (by first | exact upB HB.out | exact HB.out))); have n5_ := Aside0.mk (below_step (by first | exact upB HB.out | exact HB.out) hb); clear HO_7; clear HO_8; clear HO_10; clear HO293; clear HB; have HO_7 := n0_; have HO_8 := n1_; have HO_10 := n2_; have HO293 := n3_; have HO297 := n4_; have HB := n5_; clear n0_ n1_ n2_ n3_ n4_ n5_; clear hb ho40; obtain ⟨Ao42, co42, eo42⟩ := Kd.R_slice HO297.out; subst eo42) | ((with_reducible refine gate_builtin (b := .append) (xs := #[.tmp 58, .tmp 61]) rfl ?_); at_builtin; refine Kd.R_append_rows Kd.string (w0 := w) w.heap.size rfl (.tmp 58) (.tmp 61) 27 9 (.string ⟨#[]⟩) 16 rfl Tryd.underlying27 info9 rfl (by decide) (by omega) u7 x7_2 y295 _ _ _ (fun k_ => some k_ ≠ (u8 : Value).ownBlock ∧ some k_ ≠ (.slice Ao33 x10_2.length co33 : Value).ownBlock ∧ some k_ ≠ (.slice Ao37 y291.length co37 : Value).ownBlock ∧ some k_ ≠ (.slice Ao42 y295.length co42 : Value).ownBlock) (fun _ => False) rfl rfl ?aO ?aR (fun _ _ h => h) (fun _ h => h.elim) ?aF ?aB ?aS ?aL ?_; (case aR => exact upC ((Kd.R_reads' HO297.out).2.2)); (case aB => exact (by first | exact upB HB.out | exact HB.out)); (case aF => exact (fun k_ hk => ⟨Kd.fresh' (Kd.R_lt (by exact upR HO_8.out)) k_ hk, Kd.fresh' (Kd.R_lt (by exact upR HO_10.out)) k_ hk, Kd.fresh' (Kd.R_lt (by exact upR HO293.out)) k_ hk, Kd.fresh' (Kd.R_lt (by exact upR HO297.out)) k_ hk⟩)); (case aO => exact (by (with_reducible repeat (first | apply Kd.R_alloc | apply Kd.R_drewN | apply Kd.R_drew)); exact Kd.R_mono HO_7.out (fun _ hk => ⟨hk.1.1.1, ⟨hk.1.1.2, ⟨hk.1.2, hk.2⟩⟩⟩))); (case aS => exact (below_size (by first | exact upB HB.out | exact HB.out))); (case aL => have := LMc30.out; omega); intro v299 w41 ho hb hg hat; rw [← Ny298.out] at ho; have n0_ := Aside0.mk (Kd.R_after (ok := (fun k_ => some k_ ≠ (.slice Ao33 x10_2.length co33 : Value).ownBlock ∧ some k_ ≠ (.slice Ao37 y291.length co37 : Value).ownBlock ∧ some k_ ≠ (.slice Ao42 y295.length co42 : Value).ownBlock)) (by (with_reducible repeat (first | apply Kd.R_alloc | apply Kd.R_drewN | apply Kd.R_drew)); exact Kd.R_mono HO_8.out (fun _ hk => ⟨⟨hk.1.1.2, ⟨hk.1.2, hk.2⟩⟩, hk.1.1.1⟩)) hg hat); have n1_ := Aside0.mk (Kd.R_after (ok := (fun k_ => some k_ ≠ (u8 : Value).ownBlock ∧ some k_ ≠ (.slice Ao37 y291.length co37 : Value).ownBlock ∧ some k_ ≠ (.slice Ao42 y295.length co42 : Value).ownBlock)) (by (with_reducible repeat (first | apply Kd.R_alloc | apply Kd.R_drewN | apply Kd.R_drew)); exact Kd.R_mono HO_10.out (fun _ hk => ⟨⟨hk.1.1.2, ⟨hk.1.2, hk.2⟩⟩, hk.1.1.1⟩)) hg hat); have n2_ := Aside0.mk (Kd.R_after (ok := (fun k_ => some k_ ≠ (u8 : Value).ownBlock ∧ some k_ ≠ (.slice Ao33 x10_2.length co33 : Value).ownBlock ∧ some k_ ≠ (.slice Ao42 y295.length co42 : Value).ownBlock)) (by (with_reducible repeat (first | apply Kd.R_alloc | apply Kd.R_drewN | apply Kd.R_drew)); exact Kd.R_mono HO293.out (fun _ hk => ⟨⟨hk.1.1.2, ⟨hk.1.2, hk.2⟩⟩, hk.1.1.1.2⟩)) hg hat); have n3_ := Aside0.mk (Kd.R_after (ok := (fun k_ => some k_ ≠ (u8 : Value).ownBlock ∧ some k_ ≠ (.slice Ao33 x10_2.length co33 : Value).ownBlock ∧ some k_ ≠ (.slice Ao37 y291.length co37 : Value).ownBlock)) (by (with_reducible repeat (first | apply Kd.R_alloc | apply Kd.R_drewN | apply Kd.R_drew)); exact Kd.R_mono HO297.out (fun _ hk => ⟨⟨hk.1.1.2, ⟨hk.1.2, hk.2⟩⟩, hk.1.1.1.2⟩)) hg hat); have n4_ := Aside0.mk (hb); have n5_ := Aside0.mk (ho); clear HO_8; clear HO_10; clear HO293; clear HO297; clear HB; clear HO_7; have HO_8 := n0_; have HO_10 := n1_; have HO293 := n2_; have HO297 := n3_; have HB := n4_; have HO300 := n5_; clear n0_ n1_ n2_ n3_ n4_ n5_; clear ho hb hg hat) | ((with_reducible refine gate_callee (f := 21) rfl ?_); clear tk47_; refine goesL_ (some 65) rfl rfl Tryd.func21 (by kernel_rfl) rfl #[.string t294] rfl (by (try simp only [List.map_toArray, List.map_cons, List.map_nil]); first | done | rfl | (simp only [List.length_drop, List.length_take]; rfl)) ?_; (with_reducible refine (pandectref01_Sum.calls k2 t294 t301 _ A31.out).mono ?_); rintro e w' ⟨rfl, ⟨nd, rfl⟩⟩; refine ⟨_, rfl, ?_⟩) | ((with_reducible refine gate_builtin (b := .append) (xs := #[.tmp 63, .tmp 66]) rfl ?_); at_builtin; refine Kd.R_append Kd.string (w0 := w) w.heap.size rfl (.tmp 63) (.tmp 66) 27 9 (.string ⟨#[]⟩) 16 rfl Tryd.underlying27 info9 rfl (by decide) (by omega) u8 x8_1 t301 [.string t301] (fun k_ => some k_ ≠ (.slice Ao33 x10_2.length co33 : Value).ownBlock ∧ some k_ ≠ (.slice Ao37 y291.length co37 : Value).ownBlock ∧ some k_ ≠ (.slice Ao42 y295.length co42 : Value).ownBlock ∧ some k_ ≠ (v299 : Value).ownBlock) (fun _ => False) rfl rfl ?aP (fun _ hk => hk.elim) ?aF ?aO ?aB ?aS ?aL ?_; (case aP => exact rfl); (case aB => exact (by first | exact upB HB.out | exact HB.out)); (case aF => exact (fun k_ hk => ⟨Kd.fresh' (Kd.R_lt (by exact upR HO_10.out)) k_ hk, Kd.fresh' (Kd.R_lt (by exact upR HO293.out)) k_ hk, Kd.fresh' (Kd.R_lt (by exact upR HO297.out)) k_ hk, Kd.fresh' (Kd.R_lt (by exact upR HO300.out)) k_ hk⟩)); (case aO => exact (by (with_reducible repeat (first | apply Kd.R_alloc | apply Kd.R_drewN | apply Kd.R_drew)); exact Kd.R_mono HO_8.out (fun _ hk => ⟨hk.1.1, ⟨hk.1.2.1, ⟨hk.1.2.2, hk.2⟩⟩⟩))); (case aS => exact (below_size (by first | exact upB HB.out | exact HB.out))); (case aL => have := LMc32.out; omega); intro v303 w43 ho hb hg hat; rw [← Ny302.out] at ho; have n0_ := Aside0.mk (Kd.R_after (ok := (fun k_ => some k_ ≠ (.slice Ao37 y291.length co37 : Value).ownBlock ∧ some k_ ≠ (.slice Ao42 y295.length co42 : Value).ownBlock ∧ some k_ ≠ (v299 : Value).ownBlock)) (by (with_reducible repeat (first | apply Kd.R_alloc | apply Kd.R_drewN | apply Kd.R_drew)); exact Kd.R_mono HO_10.out (fun _ hk => ⟨⟨hk.1.2.1, ⟨hk.1.2.2, hk.2⟩⟩, hk.1.1⟩)) hg hat); have n1_ := Aside0.mk (Kd.R_after (ok := (fun k_ => some k_ ≠ (.slice Ao33 x10_2.length co33 : Value).ownBlock ∧ some k_ ≠ (.slice Ao42 y295.length co42 : Value).ownBlock ∧ some k_ ≠ (v299 : Value).ownBlock)) (by (with_reducible repeat (first | apply Kd.R_alloc | apply Kd.R_drewN | apply Kd.R_drew)); exact Kd.R_mono HO293.out (fun _ hk => ⟨⟨hk.1.2.1, ⟨hk.1.2.2, hk.2⟩⟩, hk.1.1⟩)) hg hat); have n2_ := Aside0.mk (Kd.R_after (ok := (fun k_ => some k_ ≠ (.slice Ao33 x10_2.length co33 : Value).ownBlock ∧ some k_ ≠ (.slice Ao37 y291.length co37 : Value).ownBlock ∧ some k_ ≠ (v299 : Value).ownBlock)) (by (with_reducible repeat (first | apply Kd.R_alloc | apply Kd.R_drewN | apply Kd.R_drew)); exact Kd.R_mono HO297.out (fun _ hk => ⟨⟨hk.1.2.1, ⟨hk.1.2.2, hk.2⟩⟩, hk.1.1⟩)) hg hat); have n3_ := Aside0.mk (Kd.R_after (ok := (fun k_ => some k_ ≠ (.slice Ao33 x10_2.length co33 : Value).ownBlock ∧ some k_ ≠ (.slice Ao37 y291.length co37 : Value).ownBlock ∧ some k_ ≠ (.slice Ao42 y295.length co42 : Value).ownBlock)) (by (with_reducible repeat (first | apply Kd.R_alloc | apply Kd.R_drewN | apply Kd.R_drew)); exact Kd.R_mono HO300.out (fun _ hk => ⟨⟨hk.2.1, ⟨hk.2.2.1, hk.2.2.2⟩⟩, hk.1⟩)) hg hat); have n4_ := Aside0.mk (hb); have n5_ := Aside0.mk (ho); clear HO_10; clear HO293; clear HO297; clear HO300; clear HB; clear HO_8; have HO_10 := n0_; have HO293 := n1_; have HO297 := n2_; have HO300 := n3_; have HB := n4_; have HO304 := n5_; clear n0_ n1_ n2_ n3_ n4_ n5_; clear ho hb hg hat))
                  go_roundg k2
                  case measure => have := HK1.out; have := HK2.out; omega
                  case rel => exact ⟨(y298), (y302), (wrap64 (x9_1 + 1)), (by first | rfl | (simp; done) | (simp [*]; done)), H', ⟨by have := HK1.out; have := HK2.out; omega⟩, ⟨by (with_reducible repeat (first | apply Kd.R_alloc | apply Kd.R_drewN | apply Kd.R_drew)); exact Kd.R_mono HO300.out (fun _ hk => hk.2)⟩, ⟨by (with_reducible repeat (first | apply Kd.R_alloc | apply Kd.R_drewN | apply Kd.R_drew)); exact Kd.R_mono HO304.out (fun _ hk => hk.2.2.2)⟩, ⟨by first | exact upB HB.out | exact HB.out⟩⟩
                · rw [if_neg c32] at H
                  exact absurd H (by simp)
              · rw [if_neg c30] at H
                exact absurd H (by simp)
      · rw [if_neg c5] at H
        have c5b0 : decide (x9_1 < t268) = false := decide_eq_false c5
        clear c5
        have H' := Aside0.mk H
        clear H
        go_wp2_with (first | ((with_reducible refine gate_callee (f := 34) rfl ?_); refine goesL_ (some 20) rfl rfl Tryd.func34 (by kernel_rfl) rfl #[.int .i64 a1] rfl (by (try simp only [List.map_toArray, List.map_cons, List.map_nil]); first | done | rfl | (simp only [List.length_drop, List.length_take]; rfl)) ?_; (with_reducible refine (pandectref03_Power.calls k1 a1 t268 _ A4.out).mono ?_); rintro e w' ⟨rfl, ⟨nd, rfl⟩⟩; refine ⟨_, rfl, ?_⟩))
        go_loopg [7, 8] k1 (fun kq v7 v8 w' => ∃ (x7_2 : List ByteArray) (x8_2 : List ByteArray), Aside0 (pandectref03_Made.l2 kq x7_2 x8_2 = some r) ∧ Aside0 (kq ≤ k1) ∧ Aside0 (Kd.R Kd.string 9 w' w.heap.size (fun k_ => some k_ ≠ (v8 : Value).ownBlock) v7 x7_2) ∧ Aside0 (Kd.R Kd.string 9 w' w.heap.size (fun k_ => some k_ ≠ (v7 : Value).ownBlock) v8 x8_2) ∧ Aside0 (Below w.heap.size w w'))
        case atStart => exact ⟨(x7_1), (x8_1), H', ⟨Nat.le_refl _⟩, ⟨by exact upR HO_7.out⟩, ⟨by exact upR HO_8.out⟩, ⟨by first | exact upB HB.out | exact HB.out⟩⟩
        case round =>
          clear H'
          try clear c1
          try clear c2
          try clear p2
          try clear q2
          try clear hx2
          try clear qi2
          try clear c3
          try clear c5
          try clear c5b0
          try clear c6
          try clear c6b0
          try clear p6
          try clear c10
          try clear c13
          try clear c14
          try clear c14b0
          try clear c14b1
          try clear c15
          try clear c19
          try clear c21
          try clear p28
          try clear q28
          try clear hx28
          try clear qi28
          try clear c30
          try clear c32
          try clear c34
          try clear c35
          try clear c36
          try clear c37
          try clear hx285_0
          try clear p2
          try clear p285
          try clear q285
          obtain ⟨x7_2, x8_2, HA, HK2, HO_7, HO_8, HB⟩ := hrel
          cases gk with
          | zero => exact absurd HA.out (by simp [pandectref03_Made.l2])
          | succ k2 =>
            have H := HA.out
            clear HA
            simp only [pandectref03_Made.l2] at H
            by_cases c48 : (x8_2.length : Int) > 1
            · rw [if_pos c48] at H
              have c48b0 : decide (1 < (x8_2.length : Int)) = true := decide_eq_true c48
              have c48b1 : decide (1 < x8_2.length) = true := decide_eq_true (by omega)
              clear c48
              have H' := Aside0.mk H
              clear H
              obtain ⟨Ao49, co49, eo49⟩ := Kd.R_slice HO_8.out
              subst eo49
              go_wp2
              go_loopg [7, 16, 17] k2 (fun kq v7 v16 v17 w' => ∃ (x7_3 : List ByteArray) (x16_3 : List ByteArray) (x17_3 : Int), v17 = .int .i64 x17_3 ∧ Aside0 (pandectref03_Made.l3 kq x7_3 x8_2 x16_3 x17_3 = some r) ∧ Aside0 (kq ≤ k2) ∧ Aside0 (Kd.R Kd.string 9 w' w.heap.size (fun k_ => some k_ ≠ ((.slice Ao49 x8_2.length co49) : Value).ownBlock ∧ some k_ ≠ (v16 : Value).ownBlock) v7 x7_3) ∧ Aside0 (Kd.R Kd.string 9 w' w.heap.size (fun k_ => some k_ ≠ (v7 : Value).ownBlock ∧ some k_ ≠ (v16 : Value).ownBlock) (.slice Ao49 x8_2.length co49) x8_2) ∧ Aside0 (Kd.R Kd.string 9 w' w.heap.size (fun k_ => some k_ ≠ (v7 : Value).ownBlock ∧ some k_ ≠ ((.slice Ao49 x8_2.length co49) : Value).ownBlock) v16 x16_3) ∧ Aside0 (Below w.heap.size w w'))
              case atStart => exact ⟨(x7_2), (([] : List ByteArray)), (0), (by first | rfl | (simp; done) | (simp [*]; done)), H', ⟨Nat.le_refl _⟩, ⟨by (with_reducible repeat (first | apply Kd.R_alloc | apply Kd.R_drewN | apply Kd.R_drew)); exact Kd.R_mono HO_7.out (fun _ hk => ⟨hk, (by simp [Value.ownBlock])⟩)⟩, ⟨by (with_reducible repeat (first | apply Kd.R_alloc | apply Kd.R_drewN | apply Kd.R_drew)); exact Kd.R_mono HO_8.out (fun _ hk => ⟨hk, (by simp [Value.ownBlock])⟩)⟩, ⟨by first | exact Kd.R_nil _ _ _ _ _ | exact Kd.N_nil _ _ _ _ _ | exact Kd.V_nil _ _ _ _ _ | exact Kd.Q_nil _ _ _ _ _ | exact Kd.S_nil _ _ _ _ _⟩, ⟨by first | exact upB HB.out | exact HB.out⟩⟩
              case round =>
                clear H'
                try clear c1
                try clear c2
                try clear p2
                try clear q2
                try clear hx2
                try clear qi2
                try clear c3
                try clear c4
                try clear c5
                try clear c5b0
                try clear c6
                try clear c6b0
                try clear p6
                try clear c10
                try clear c13
                try clear c14
                try clear c14b0
                try clear c14b1
                try clear c15
                try clear c19
                try clear c21
                try clear p28
                try clear q28
                try clear hx28
                try clear qi28
                try clear c30
                try clear c32
                try clear c34
                try clear c35
                try clear c36
                try clear c37
                try clear c48
                try clear c48b0
                try clear c48b1
                try clear hx285_0
                try clear p2
                try clear p28
                try clear p285
                try clear p6
                try clear q2
                try clear q28
                try clear q285
                obtain ⟨x7_3, x16_3, x17_3, rfl, HA, HK3, HO_7, HO_8, HO_16, HB⟩ := hrel
                cases gk with
                | zero => exact absurd HA.out (by simp [pandectref03_Made.l3])
                | succ k3 =>
                  have H := HA.out
                  clear HA
                  simp only [pandectref03_Made.l3] at H
                  by_cases c50 : (wrap64 (x17_3 + 1)) < (x8_2.length : Int)
                  · rw [if_pos c50] at H
                    have c50b0 : decide ((wrap64 (x17_3 + 1)) < (x8_2.length : Int)) = true := decide_eq_true c50
                    clear c50
                    by_cases c51 : 0 ≤ x17_3
                    · rw [if_pos c51] at H
                      have c51b0 : decide (0 ≤ x17_3) = true := decide_eq_true c51
                      clear c51
                      by_cases c52 : x17_3 < (x8_2.length : Int)
                      · rw [if_pos c52] at H
                        have c52b0 : decide (x17_3 < (x8_2.length : Int)) = true := decide_eq_true c52
                        clear c52
                        obtain ⟨ji53, hji53⟩ : ∃ j_ : Int, (wrap64 (x17_3 + 1)) = j_ := ⟨_, rfl⟩
                        replace H : (if 0 ≤ (ji53) then ((pandectref03_node.f k3 (rdOf ByteArray.empty x8_2 x17_3) (rdOf ByteArray.empty x8_2 (ji53))).bind fun t307 => (if x7_3.length < 8796093022208 then ((pandectref03_node.f k3 (rdOf ByteArray.empty x8_2 x17_3) (rdOf ByteArray.empty x8_2 (ji53))).bind fun t313 => ((pandectref01_Sum.f k3 t313).bind fun t314 => (if x16_3.length < 8796093022208 then (pandectref03_Made.l3 k3 (x7_3 ++ [t307]) x8_2 (x16_3 ++ [t314]) (wrap64 (x17_3 + 2))) else (none)))) else (none))) else (none)) = some r := by first | (rw [hji53] at H; exact H) | (simp only [hji53] at H ⊢; exact H)
                        (try rw [hji53] at c50b0)
                        have hji53w : (IntKind.i64.wrap (x17_3 + 1)) = ji53 := (i64_w _).trans hji53
                        by_cases c54 : 0 ≤ (ji53)
                        · rw [if_pos c54] at H
                          have c54b0 : decide (0 ≤ (ji53)) = true := decide_eq_true c54
                          clear c54
                          replace H := Option.bind_eq_some_iff.mp H
                          obtain ⟨t307, A550, H⟩ := H
                          replace H : (if x7_3.length < 8796093022208 then ((pandectref03_node.f k3 (rdOf ByteArray.empty x8_2 x17_3) (rdOf ByteArray.empty x8_2 (ji53))).bind fun t313 => ((pandectref01_Sum.f k3 t313).bind fun t314 => (if x16_3.length < 8796093022208 then (pandectref03_Made.l3 k3 (x7_3 ++ [t307]) x8_2 (x16_3 ++ [t314]) (wrap64 (x17_3 + 2))) else (none)))) else (none)) = some r := H
                          have A55 := Aside0.mk A550
                          clear A550
                          by_cases c56 : x7_3.length < 8796093022208
                          · rw [if_pos c56] at H
                            have LMc56 := Aside0.mk c56
                            clear c56
                            obtain ⟨y308, hy308⟩ : ∃ y_ : List ByteArray, y_ = (x7_3 ++ [t307]) := ⟨_, rfl⟩
                            replace H : ((pandectref03_node.f k3 (rdOf ByteArray.empty x8_2 x17_3) (rdOf ByteArray.empty x8_2 (ji53))).bind fun t313 => ((pandectref01_Sum.f k3 t313).bind fun t314 => (if x16_3.length < 8796093022208 then (pandectref03_Made.l3 k3 y308 x8_2 (x16_3 ++ [t314]) (wrap64 (x17_3 + 2))) else (none)))) = some r := by first | (rw [hy308]; with_reducible exact H) | (have H2_ := (Option.bind_some _ _).symm.trans H; rw [hy308]; with_reducible exact H2_) | (have H2_ := (Option.bind_some _ _).symm.trans H; with_reducible exact H2_) | with_reducible exact H | (rw [hy308]; exact H) | exact H
                            have Ny308 := Aside0.mk hy308
                            clear hy308
                            replace H := Option.bind_eq_some_iff.mp H
                            obtain ⟨t313, A570, H⟩ := H
                            replace H : ((pandectref01_Sum.f k3 t313).bind fun t314 => (if x16_3.length < 8796093022208 then (pandectref03_Made.l3 k3 y308 x8_2 (x16_3 ++ [t314]) (wrap64 (x17_3 + 2))) else (none))) = some r := H
                            have A57 := Aside0.mk A570
                            clear A570
                            replace H := Option.bind_eq_some_iff.mp H
                            obtain ⟨t314, A580, H⟩ := H
                            replace H : (if x16_3.length < 8796093022208 then (pandectref03_Made.l3 k3 y308 x8_2 (x16_3 ++ [t314]) (wrap64 (x17_3 + 2))) else (none)) = some r := H
                            have A58 := Aside0.mk A580
                            clear A580
                            by_cases c59 : x16_3.length < 8796093022208
                            · rw [if_pos c59] at H
                              have LMc59 := Aside0.mk c59
                              clear c59
                              obtain ⟨y315, hy315⟩ : ∃ y_ : List ByteArray, y_ = (x16_3 ++ [t314]) := ⟨_, rfl⟩
                              replace H : (pandectref03_Made.l3 k3 y308 x8_2 y315 (wrap64 (x17_3 + 2))) = some r := by first | (rw [hy315]; with_reducible exact H) | (have H2_ := (Option.bind_some _ _).symm.trans H; rw [hy315]; with_reducible exact H2_) | (have H2_ := (Option.bind_some _ _).symm.trans H; with_reducible exact H2_) | with_reducible exact H | (rw [hy315]; exact H) | exact H
                              have Ny315 := Aside0.mk hy315
                              clear hy315
                              have H' := Aside0.mk H
                              clear H
                              try go_wp2
                              have n0_ := Aside0.mk (Kd.R_drew HO_7.out)
                              have n1_ := Aside0.mk (Kd.R_drew HO_8.out)
                              have n2_ := Aside0.mk (Kd.R_drew HO_16.out)
                              have n3_ := Aside0.mk (below_drew1 HB.out)
                              clear HO_7
                              clear HO_8
                              clear HO_16
                              clear HB
                              have HO_7 := n0_
                              have HO_8 := n1_
                              have HO_16 := n2_
                              have HB := n3_
                              clear n0_ n1_ n2_ n3_
                              have p305 : 0 ≤ (x17_3 : Int) := of_decide_eq_true (by first | (with_reducible assumption) | assumption)
                              have q305 : x17_3 < (x8_2.length : Int) := of_decide_eq_true (by first | (with_reducible assumption) | assumption)
                              obtain ⟨ad305, e305, hx305_0⟩ := Kd.at_string (Kd.R_reads' HO_8.out).2.2 x17_3 p305 q305
                              cases e305
                              replace p305 := eq_true p305
                              replace q305 := eq_true q305
                              have p306 : 0 ≤ ((ji53) : Int) := of_decide_eq_true (by first | (with_reducible assumption) | assumption)
                              have q306 : (ji53) < (x8_2.length : Int) := of_decide_eq_true (by first | (with_reducible assumption) | assumption)
                              obtain ⟨ad306, e306, hx306_0⟩ := Kd.at_string (Kd.R_reads' HO_8.out).2.2 (ji53) p306 q306
                              obtain rfl : ad305 = ad306 := (by injection e306)
                              replace p306 := eq_true p306
                              replace q306 := eq_true q306
                              refine start_ (n := 14) (S := fun w' => w'.cell? (ad305.add (x17_3).toNat) = some (.string (rdOf ByteArray.empty x8_2 x17_3)) ∧ w'.cell? (ad305.add ((ji53)).toNat) = some (.string (rdOf ByteArray.empty x8_2 (ji53)))) (ds := [11, 12]) #[false, false, false, false, false, false, false, false, false, false, false, false, false, false] (by kernel_rfl) rfl rfl ⟨hx305_0, hx306_0⟩ (fun hHeld => ?_); refine with_tabW pandectref03_Made.tab24 pandectref03_Made.bits24 (fun HT_ HW_ => ?_)
                              generalize wr.drew = w60 at HO_7 HO_8 HO_16 HB hx305_0 hx306_0 hHeld ⊢
                              refine pure_ (i := 0) (N := some 78) (v := ?_) (a' := ?_) #[true, false, false, false, false, false, false, false, false, false, false, false, false, false] rfl rfl (any_of HT_.out (by kernel_rfl)) (fun _ _ _ h => h) (Or.inl ⟨by rfl, ?_⟩) ?_ ?_
                              rotate_left
                              · intro w'
                                go_simp
                                with_reducible rfl
                              rotate_left
                              · simp only [Act.put, List.setIfInBounds_toArray, List.set_cons_zero, List.set_cons_succ, i64_w, i32_w]
                                rfl
                              refine pure_ (i := 1) (N := some 79) (v := ?_) (a' := ?_) #[true, true, false, false, false, false, false, false, false, false, false, false, false, false] rfl rfl (any_of HT_.out (by kernel_rfl)) (fun _ _ _ h => h) (Or.inl ⟨by rfl, ?_⟩) ?_ ?_
                              rotate_left
                              · intro w'
                                go_simp
                                with_reducible rfl
                              rotate_left
                              · simp only [Act.put, List.setIfInBounds_toArray, List.set_cons_zero, List.set_cons_succ, i64_w, i32_w]
                                rfl
                              refine pure_ (i := 2) (N := some 80) (v := ?_) (a' := ?_) #[true, true, true, false, false, false, false, false, false, false, false, false, false, false] rfl rfl (any_of HT_.out (by kernel_rfl)) (fun _ _ _ h => h) (Or.inl ⟨by rfl, ?_⟩) ?_ ?_
                              rotate_left
                              · intro w'
                                go_simp
                                with_reducible rfl
                              rotate_left
                              · simp only [Act.put, List.setIfInBounds_toArray, List.set_cons_zero, List.set_cons_succ, i64_w, i32_w]
                                rfl
                              refine pure_ (i := 3) (N := some 81) (v := ?_) (a' := ?_) #[true, true, true, true, false, false, false, false, false, false, false, false, false, false] rfl rfl (any_of HT_.out (by kernel_rfl)) (fun _ _ _ h => h) (Or.inl ⟨by rfl, ?_⟩) ?_ ?_
                              rotate_left
                              · intro w'
                                go_simp
                                with_reducible rfl
                              rotate_left
                              · simp only [Act.put, List.setIfInBounds_toArray, List.set_cons_zero, List.set_cons_succ, i64_w, i32_w]
                                rfl
                              refine pure_ (i := 5) (N := some 83) (v := ?_) (a' := ?_) #[true, true, true, true, false, true, false, false, false, false, false, false, false, false] rfl rfl (any_of HT_.out (by kernel_rfl)) (fun _ _ _ h => h) (Or.inl ⟨by rfl, ?_⟩) ?_ ?_
                              rotate_left
                              · intro w'
                                go_simp
                                with_reducible rfl
                              rotate_left
                              · simp only [Act.put, List.setIfInBounds_toArray, List.set_cons_zero, List.set_cons_succ, i64_w, i32_w]
                                rfl
                              refine pure_ (i := 6) (N := some 84) (v := ?_) (a' := ?_) #[true, true, true, true, false, true, true, false, false, false, false, false, false, false] rfl rfl (any_of HT_.out (by kernel_rfl)) (fun _ _ _ h => h) (Or.inl ⟨by rfl, ?_⟩) ?_ ?_
                              rotate_left
                              · intro w'
                                go_simp
                                with_reducible rfl
                              rotate_left
                              · simp only [Act.put, List.setIfInBounds_toArray, List.set_cons_zero, List.set_cons_succ, i64_w, i32_w]
                                rfl
                              refine pure_ (i := 7) (N := some 85) (v := ?_) (a' := ?_) #[true, true, true, true, false, true, true, true, false, false, false, false, false, false] rfl rfl (any_of HT_.out (by kernel_rfl)) (fun _ _ _ h => h) (Or.inl ⟨by rfl, ?_⟩) ?_ ?_
                              rotate_left
                              · intro w'
                                go_simp
                                with_reducible rfl
                              rotate_left
                              · simp only [Act.put, List.setIfInBounds_toArray, List.set_cons_zero, List.set_cons_succ, i64_w, i32_w]
                                rfl
                              refine pure_ (i := 8) (N := some 86) (v := ?_) (a' := ?_) #[true, true, true, true, false, true, true, true, true, false, false, false, false, false] rfl rfl (any_of HT_.out (by kernel_rfl)) (fun _ _ _ h => h) (Or.inl ⟨by rfl, ?_⟩) ?_ ?_
                              rotate_left
                              · intro w'
                                go_simp
                                with_reducible rfl
                              rotate_left
                              · simp only [Act.put, List.setIfInBounds_toArray, List.set_cons_zero, List.set_cons_succ, i64_w, i32_w]
                                rfl
                              refine take_ (i := 4) (N := some 82) (v := ?_) (a' := ?_) #[true, true, true, true, true, true, true, true, true, false, false, false, false, false] rfl rfl (take_ofW HT_.out HW_.out (by kernel_rfl)) (fun _ _ _ h => h) (Or.inl ⟨by rfl, ?_⟩) hHeld ?_ ?_
                              rotate_left
                              · rintro w' ⟨s0, s1⟩
                                go_simp
                                with_reducible rfl
                              rotate_left
                              · simp only [Act.put, List.setIfInBounds_toArray, List.set_cons_zero, List.set_cons_succ, i64_w, i32_w]
                                rfl
                              refine take_ (i := 9) (N := some 87) (v := ?_) (a' := ?_) #[true, true, true, true, true, true, true, true, true, true, false, false, false, false] rfl rfl (take_ofW HT_.out HW_.out (by kernel_rfl)) (fun _ _ _ h => h) (Or.inl ⟨by rfl, ?_⟩) hHeld ?_ ?_
                              rotate_left
                              · rintro w' ⟨s0, s1⟩
                                go_simp
                                with_reducible rfl
                              rotate_left
                              · simp only [Act.put, List.setIfInBounds_toArray, List.set_cons_zero, List.set_cons_succ, i64_w, i32_w]
                                rfl
                              refine one_ (i := 10) (N := some 88) #[true, true, true, true, true, true, true, true, true, true, true, false, false, false] rfl rfl (one_of HT_.out (by kernel_rfl)) (by decide) (fun K hK => ?_)
                              refine goes_ Tryd.func38 (by kernel_rfl) rfl #[.string (rdOf ByteArray.empty x8_2 x17_3), .string (rdOf ByteArray.empty x8_2 (ji53))] (by rfl) rfl rfl (by (try simp only [List.map_toArray, List.map_cons, List.map_nil]); first | done | (simp only [hji53]; rfl) | rfl | (simp only [List.length_drop, List.length_take]; rfl)) ?_
                              with_reducible refine (pandectref03_node.calls k3 (rdOf ByteArray.empty x8_2 x17_3) (rdOf ByteArray.empty x8_2 (ji53)) t307 _ A55.out).mono ?_
                              rintro e w61 ⟨rfl, hb⟩
                              have HS0_ := (hb.cell (World.block_lt_of_cell? _ _ (hHeld.1))).trans (hHeld.1)
                              have HS1_ := (hb.cell (World.block_lt_of_cell? _ _ (hHeld.2))).trans (hHeld.2)
                              refine ⟨_, rfl, ?_⟩
                              have n0_ := Aside0.mk (Kd.R_below (by exact upR HO_7.out) hb)
                              have n1_ := Aside0.mk (Kd.R_below (by exact upR HO_8.out) hb)
                              have n2_ := Aside0.mk (Kd.R_below (by exact upR HO_16.out) hb)
                              have n3_ := Aside0.mk (below_step (by first | exact upB HB.out | exact HB.out) hb)
                              clear HO_7
                              clear HO_8
                              clear HO_16
                              clear HB
                              have HO_7 := n0_
                              have HO_8 := n1_
                              have HO_16 := n2_
                              have HB := n3_
                              clear n0_ n1_ n2_ n3_
                              (try clear hb)
                              (try clear hb2)
                              (try clear hk)
                              (try clear hi)
                              refine hK.out _ _ ⟨HS0_, HS1_⟩ (fun hHeld => ?_)
                              clear hK K
                              refine norm_ (a' := ?_) ?_ ?_
                              rotate_left
                              · show Act.put _ (some 88) _ = _
                                simp only [Act.put, List.setIfInBounds_toArray, List.set_cons_zero, List.set_cons_succ, i64_w, i32_w]
                                rfl
                              refine last_ (i := 11) (N := some 89) #[true, true, true, true, true, true, true, true, true, true, true, true, false, false] rfl rfl (one_of HT_.out (by kernel_rfl)) (by decide) (fun K hK => ?_)
                              refine value_ (w1 := ?_) (v := ?_) (by rfl) rfl ?_ ?_
                              rotate_left 2
                              · go_simp
                                constructor
                                · rfl
                                · rfl
                              refine hK.out _ _ ?_
                              clear hK K
                              refine norm_ (a' := ?_) ?_ ?_
                              rotate_left
                              · show Act.put _ (some 89) _ = _
                                simp only [Act.put, List.setIfInBounds_toArray, List.set_cons_zero, List.set_cons_succ, i64_w, i32_w]
                                rfl
                              refine last_ (i := 12) (N := some 90) #[true, true, true, true, true, true, true, true, true, true, true, true, true, false] rfl rfl (one_of HT_.out (by kernel_rfl)) (by decide) (fun K hK => ?_)
                              refine Kd.R_append_step Kd.string (w0 := w) w.heap.size (by rfl) (.tmp 78) (.tmp 89) 27 9 (.string ⟨#[]⟩) 16 rfl Tryd.underlying27 info9 rfl (by decide) (by omega) u7 x7_3 t307 [.string t307] (fun k_ => some k_ ≠ (.slice (some ad305) x8_2.length co49 : Value).ownBlock ∧ some k_ ≠ (u16 : Value).ownBlock) (fun _ => False) rfl rfl ?aP (fun _ hk => hk.elim) ?aF ?aO ?aB ?aS ?aL ?_
                              (case aP => exact rfl)
                              (case aB => exact (by first | exact upB HB.out | exact HB.out))
                              (case aF => exact (fun k_ hk => ⟨Kd.fresh' (Kd.R_lt (by exact upR HO_8.out)) k_ hk, Kd.fresh' (Kd.R_lt (by exact upR HO_16.out)) k_ hk⟩))
                              (case aO => exact (by exact upR HO_7.out))
                              (case aS => exact (below_size (by first | exact upB HB.out | exact HB.out)))
                              (case aL => have := LMc56.out; omega)
                              intro v309 w62 ho hb hg hat
                              rw [← Ny308.out] at ho
                              have n0_ := Aside0.mk (Kd.R_after (ok := (fun k_ => some k_ ≠ (u16 : Value).ownBlock)) (by (with_reducible repeat (first | apply Kd.R_alloc | apply Kd.R_drewN | apply Kd.R_drew)); exact Kd.R_mono HO_8.out (fun _ hk => ⟨hk.2, hk.1⟩)) hg hat)
                              have n1_ := Aside0.mk (Kd.R_after (ok := (fun k_ => some k_ ≠ (.slice (some ad305) x8_2.length co49 : Value).ownBlock)) (by (with_reducible repeat (first | apply Kd.R_alloc | apply Kd.R_drewN | apply Kd.R_drew)); exact Kd.R_mono HO_16.out (fun _ hk => ⟨hk.2, hk.1⟩)) hg hat)
                              have n2_ := Aside0.mk (hb)
                              have n3_ := Aside0.mk (ho)
                              clear HO_8
                              clear HO_16
                              clear HB
                              clear HO_7
                              have HO_8 := n0_
                              have HO_16 := n1_
                              have HB := n2_
                              have HO310 := n3_
                              clear n0_ n1_ n2_ n3_
                              clear ho hb hg hat
                              refine hK.out _ _ ?_
                              clear hK K
                              refine norm_ (a' := ?_) ?_ ?_
                              rotate_left
                              · show Act.put _ (some 90) _ = _
                                simp only [Act.put, List.setIfInBounds_toArray, List.set_cons_zero, List.set_cons_succ, i64_w, i32_w]
                                rfl
                              refine pure_ (i := 13) (N := some 7) (v := ?_) (a' := ?_) #[true, true, true, true, true, true, true, true, true, true, true, true, true, true] rfl rfl (any_of HT_.out (by kernel_rfl)) (fun _ _ _ h => h) (Or.inl ⟨by rfl, ?_⟩) ?_ ?_
                              rotate_left
                              · intro w'
                                go_simp
                                with_reducible rfl
                              rotate_left
                              · simp only [Act.put, List.setIfInBounds_toArray, List.set_cons_zero, List.set_cons_succ, i64_w, i32_w]
                                rfl
                              refine done_ (done_of HT_.out (by kernel_rfl)) ?_
                              try go_wp2
                              have n0_ := Aside0.mk (Kd.R_drew HO_8.out)
                              have n1_ := Aside0.mk (Kd.R_drew HO_16.out)
                              have n2_ := Aside0.mk (Kd.R_drew HO310.out)
                              have n3_ := Aside0.mk (below_drew1 HB.out)
                              clear HO_8
                              clear HO_16
                              clear HO310
                              clear HB
                              have HO_8 := n0_
                              have HO_16 := n1_
                              have HO310 := n2_
                              have HB := n3_
                              clear n0_ n1_ n2_ n3_
                              have p311 : 0 ≤ (x17_3 : Int) := of_decide_eq_true (by first | (with_reducible assumption) | assumption)
                              have q311 : x17_3 < (x8_2.length : Int) := of_decide_eq_true (by first | (with_reducible assumption) | assumption)
                              obtain ⟨ad311, e311, hx311_0⟩ := Kd.at_string (Kd.R_reads' HO_8.out).2.2 x17_3 p311 q311
                              obtain rfl : ad305 = ad311 := (by injection e311)
                              replace p311 := eq_true p311
                              replace q311 := eq_true q311
                              have p312 : 0 ≤ ((ji53) : Int) := of_decide_eq_true (by first | (with_reducible assumption) | assumption)
                              have q312 : (ji53) < (x8_2.length : Int) := of_decide_eq_true (by first | (with_reducible assumption) | assumption)
                              obtain ⟨ad312, e312, hx312_0⟩ := Kd.at_string (Kd.R_reads' HO_8.out).2.2 (ji53) p312 q312
                              obtain rfl : ad305 = ad312 := (by injection e312)
                              replace p312 := eq_true p312
                              replace q312 := eq_true q312
                              refine start_ (n := 15) (S := fun w' => w'.cell? (ad305.add (x17_3).toNat) = some (.string (rdOf ByteArray.empty x8_2 x17_3)) ∧ w'.cell? (ad305.add ((ji53)).toNat) = some (.string (rdOf ByteArray.empty x8_2 (ji53)))) (ds := [12, 13]) #[false, false, false, false, false, false, false, false, false, false, false, false, false, false, false] (by kernel_rfl) rfl rfl ⟨hx311_0, hx312_0⟩ (fun hHeld => ?_); refine with_tabW pandectref03_Made.tab25 pandectref03_Made.bits25 (fun HT_ HW_ => ?_)
                              generalize w62.drew = w63 at HO_8 HO_16 HO310 HB hx311_0 hx312_0 hHeld ⊢
                              refine pure_ (i := 0) (N := some 91) (v := ?_) (a' := ?_) #[true, false, false, false, false, false, false, false, false, false, false, false, false, false, false] rfl rfl (any_of HT_.out (by kernel_rfl)) (fun _ _ _ h => h) (Or.inl ⟨by rfl, ?_⟩) ?_ ?_
                              rotate_left
                              · intro w'
                                go_simp
                                with_reducible rfl
                              rotate_left
                              · simp only [Act.put, List.setIfInBounds_toArray, List.set_cons_zero, List.set_cons_succ, i64_w, i32_w]
                                rfl
                              refine pure_ (i := 1) (N := some 92) (v := ?_) (a' := ?_) #[true, true, false, false, false, false, false, false, false, false, false, false, false, false, false] rfl rfl (any_of HT_.out (by kernel_rfl)) (fun _ _ _ h => h) (Or.inl ⟨by rfl, ?_⟩) ?_ ?_
                              rotate_left
                              · intro w'
                                go_simp
                                with_reducible rfl
                              rotate_left
                              · simp only [Act.put, List.setIfInBounds_toArray, List.set_cons_zero, List.set_cons_succ, i64_w, i32_w]
                                rfl
                              refine pure_ (i := 2) (N := some 93) (v := ?_) (a' := ?_) #[true, true, true, false, false, false, false, false, false, false, false, false, false, false, false] rfl rfl (any_of HT_.out (by kernel_rfl)) (fun _ _ _ h => h) (Or.inl ⟨by rfl, ?_⟩) ?_ ?_
                              rotate_left
                              · intro w'
                                go_simp
                                with_reducible rfl
                              rotate_left
                              · simp only [Act.put, List.setIfInBounds_toArray, List.set_cons_zero, List.set_cons_succ, i64_w, i32_w]
                                rfl
                              refine pure_ (i := 3) (N := some 94) (v := ?_) (a' := ?_) #[true, true, true, true, false, false, false, false, false, false, false, false, false, false, false] rfl rfl (any_of HT_.out (by kernel_rfl)) (fun _ _ _ h => h) (Or.inl ⟨by rfl, ?_⟩) ?_ ?_
                              rotate_left
                              · intro w'
                                go_simp
                                with_reducible rfl
                              rotate_left
                              · simp only [Act.put, List.setIfInBounds_toArray, List.set_cons_zero, List.set_cons_succ, i64_w, i32_w]
                                rfl
                              refine pure_ (i := 5) (N := some 96) (v := ?_) (a' := ?_) #[true, true, true, true, false, true, false, false, false, false, false, false, false, false, false] rfl rfl (any_of HT_.out (by kernel_rfl)) (fun _ _ _ h => h) (Or.inl ⟨by rfl, ?_⟩) ?_ ?_
                              rotate_left
                              · intro w'
                                go_simp
                                with_reducible rfl
                              rotate_left
                              · simp only [Act.put, List.setIfInBounds_toArray, List.set_cons_zero, List.set_cons_succ, i64_w, i32_w]
                                rfl
                              refine pure_ (i := 6) (N := some 97) (v := ?_) (a' := ?_) #[true, true, true, true, false, true, true, false, false, false, false, false, false, false, false] rfl rfl (any_of HT_.out (by kernel_rfl)) (fun _ _ _ h => h) (Or.inl ⟨by rfl, ?_⟩) ?_ ?_
                              rotate_left
                              · intro w'
                                go_simp
                                with_reducible rfl
                              rotate_left
                              · simp only [Act.put, List.setIfInBounds_toArray, List.set_cons_zero, List.set_cons_succ, i64_w, i32_w]
                                rfl
                              refine pure_ (i := 7) (N := some 98) (v := ?_) (a' := ?_) #[true, true, true, true, false, true, true, true, false, false, false, false, false, false, false] rfl rfl (any_of HT_.out (by kernel_rfl)) (fun _ _ _ h => h) (Or.inl ⟨by rfl, ?_⟩) ?_ ?_
                              rotate_left
                              · intro w'
                                go_simp
                                with_reducible rfl
                              rotate_left
                              · simp only [Act.put, List.setIfInBounds_toArray, List.set_cons_zero, List.set_cons_succ, i64_w, i32_w]
                                rfl
                              refine pure_ (i := 8) (N := some 99) (v := ?_) (a' := ?_) #[true, true, true, true, false, true, true, true, true, false, false, false, false, false, false] rfl rfl (any_of HT_.out (by kernel_rfl)) (fun _ _ _ h => h) (Or.inl ⟨by rfl, ?_⟩) ?_ ?_
                              rotate_left
                              · intro w'
                                go_simp
                                with_reducible rfl
                              rotate_left
                              · simp only [Act.put, List.setIfInBounds_toArray, List.set_cons_zero, List.set_cons_succ, i64_w, i32_w]
                                rfl
                              refine take_ (i := 4) (N := some 95) (v := ?_) (a' := ?_) #[true, true, true, true, true, true, true, true, true, false, false, false, false, false, false] rfl rfl (take_ofW HT_.out HW_.out (by kernel_rfl)) (fun _ _ _ h => h) (Or.inl ⟨by rfl, ?_⟩) hHeld ?_ ?_
                              rotate_left
                              · rintro w' ⟨s0, s1⟩
                                go_simp
                                with_reducible rfl
                              rotate_left
                              · simp only [Act.put, List.setIfInBounds_toArray, List.set_cons_zero, List.set_cons_succ, i64_w, i32_w]
                                rfl
                              refine take_ (i := 9) (N := some 100) (v := ?_) (a' := ?_) #[true, true, true, true, true, true, true, true, true, true, false, false, false, false, false] rfl rfl (take_ofW HT_.out HW_.out (by kernel_rfl)) (fun _ _ _ h => h) (Or.inl ⟨by rfl, ?_⟩) hHeld ?_ ?_
                              rotate_left
                              · rintro w' ⟨s0, s1⟩
                                go_simp
                                with_reducible rfl
                              rotate_left
                              · simp only [Act.put, List.setIfInBounds_toArray, List.set_cons_zero, List.set_cons_succ, i64_w, i32_w]
                                rfl
                              refine one_ (i := 10) (N := some 101) #[true, true, true, true, true, true, true, true, true, true, true, false, false, false, false] rfl rfl (one_of HT_.out (by kernel_rfl)) (by decide) (fun K hK => ?_)
                              refine goes_ Tryd.func38 (by kernel_rfl) rfl #[.string (rdOf ByteArray.empty x8_2 x17_3), .string (rdOf ByteArray.empty x8_2 (ji53))] (by rfl) rfl rfl (by (try simp only [List.map_toArray, List.map_cons, List.map_nil]); first | done | (simp only [hji53]; rfl) | rfl | (simp only [List.length_drop, List.length_take]; rfl)) ?_
                              with_reducible refine (pandectref03_node.calls k3 (rdOf ByteArray.empty x8_2 x17_3) (rdOf ByteArray.empty x8_2 (ji53)) t313 _ A57.out).mono ?_
                              rintro e w64 ⟨rfl, hb⟩
                              have HS0_ := (hb.cell (World.block_lt_of_cell? _ _ (hHeld.1))).trans (hHeld.1)
                              have HS1_ := (hb.cell (World.block_lt_of_cell? _ _ (hHeld.2))).trans (hHeld.2)
                              refine ⟨_, rfl, ?_⟩
                              have n0_ := Aside0.mk (Kd.R_below (by exact upR HO_8.out) hb)
                              have n1_ := Aside0.mk (Kd.R_below (by exact upR HO_16.out) hb)
                              have n2_ := Aside0.mk (Kd.R_below (by exact upR HO310.out) hb)
                              have n3_ := Aside0.mk (below_step (by first | exact upB HB.out | exact HB.out) hb)
                              clear HO_8
                              clear HO_16
                              clear HO310
                              clear HB
                              have HO_8 := n0_
                              have HO_16 := n1_
                              have HO310 := n2_
                              have HB := n3_
                              clear n0_ n1_ n2_ n3_
                              (try clear hb)
                              (try clear hb2)
                              (try clear hk)
                              (try clear hi)
                              refine hK.out _ _ ⟨HS0_, HS1_⟩ (fun hHeld => ?_)
                              clear hK K
                              refine norm_ (a' := ?_) ?_ ?_
                              rotate_left
                              · show Act.put _ (some 101) _ = _
                                simp only [Act.put, List.setIfInBounds_toArray, List.set_cons_zero, List.set_cons_succ, i64_w, i32_w]
                                rfl
                              refine one_ (i := 11) (N := some 102) #[true, true, true, true, true, true, true, true, true, true, true, true, false, false, false] rfl rfl (one_of HT_.out (by kernel_rfl)) (by decide) (fun K hK => ?_)
                              refine goes_ Tryd.func21 (by kernel_rfl) rfl #[.string t313] (by rfl) rfl rfl (by (try simp only [List.map_toArray, List.map_cons, List.map_nil]); first | done | rfl | (simp only [List.length_drop, List.length_take]; rfl)) ?_
                              with_reducible refine (pandectref01_Sum.calls k3 t313 t314 _ A58.out).mono ?_
                              rintro e w' ⟨rfl, ⟨nd, rfl⟩⟩
                              refine ⟨_, rfl, ?_⟩
                              refine hK.out _ _ ⟨hHeld.1, hHeld.2⟩ (fun hHeld => ?_)
                              clear hK K
                              refine norm_ (a' := ?_) ?_ ?_
                              rotate_left
                              · show Act.put _ (some 102) _ = _
                                simp only [Act.put, List.setIfInBounds_toArray, List.set_cons_zero, List.set_cons_succ, i64_w, i32_w]
                                rfl
                              refine last_ (i := 12) (N := some 103) #[true, true, true, true, true, true, true, true, true, true, true, true, true, false, false] rfl rfl (one_of HT_.out (by kernel_rfl)) (by decide) (fun K hK => ?_)
                              refine value_ (w1 := ?_) (v := ?_) (by rfl) rfl ?_ ?_
                              rotate_left 2
                              · go_simp
                                constructor
                                · rfl
                                · rfl
                              refine hK.out _ _ ?_
                              clear hK K
                              refine norm_ (a' := ?_) ?_ ?_
                              rotate_left
                              · show Act.put _ (some 103) _ = _
                                simp only [Act.put, List.setIfInBounds_toArray, List.set_cons_zero, List.set_cons_succ, i64_w, i32_w]
                                rfl
                              refine last_ (i := 13) (N := some 104) #[true, true, true, true, true, true, true, true, true, true, true, true, true, true, false] rfl rfl (one_of HT_.out (by kernel_rfl)) (by decide) (fun K hK => ?_)
                              refine Kd.R_append_step Kd.string (w0 := w) w.heap.size (by rfl) (.tmp 91) (.tmp 103) 27 9 (.string ⟨#[]⟩) 16 rfl Tryd.underlying27 info9 rfl (by decide) (by omega) u16 x16_3 t314 [.string t314] (fun k_ => some k_ ≠ (.slice (some ad305) x8_2.length co49 : Value).ownBlock ∧ some k_ ≠ (v309 : Value).ownBlock) (fun _ => False) rfl rfl ?aP (fun _ hk => hk.elim) ?aF ?aO ?aB ?aS ?aL ?_
                              (case aP => exact rfl)
                              (case aB => exact (by first | exact upB HB.out | exact HB.out))
                              (case aF => exact (fun k_ hk => ⟨Kd.fresh' (Kd.R_lt (by exact upR HO_8.out)) k_ hk, Kd.fresh' (Kd.R_lt (by exact upR HO310.out)) k_ hk⟩))
                              (case aO => exact (by exact upR HO_16.out))
                              (case aS => exact (below_size (by first | exact upB HB.out | exact HB.out)))
                              (case aL => have := LMc59.out; omega)
                              intro v316 w65 ho hb hg hat
                              rw [← Ny315.out] at ho
                              have n0_ := Aside0.mk (Kd.R_after (ok := (fun k_ => some k_ ≠ (v309 : Value).ownBlock)) (by (with_reducible repeat (first | apply Kd.R_alloc | apply Kd.R_drewN | apply Kd.R_drew)); exact Kd.R_mono HO_8.out (fun _ hk => ⟨hk.2, hk.1⟩)) hg hat)
                              have n1_ := Aside0.mk (Kd.R_after (ok := (fun k_ => some k_ ≠ (.slice (some ad305) x8_2.length co49 : Value).ownBlock)) (by exact upR HO310.out) hg hat)
                              have n2_ := Aside0.mk (hb)
                              have n3_ := Aside0.mk (ho)
                              clear HO_8
                              clear HO310
                              clear HB
                              clear HO_16
                              have HO_8 := n0_
                              have HO310 := n1_
                              have HB := n2_
                              have HO317 := n3_
                              clear n0_ n1_ n2_ n3_
                              clear ho hb hg hat
                              refine hK.out _ _ ?_
                              clear hK K
                              refine norm_ (a' := ?_) ?_ ?_
                              rotate_left
                              · show Act.put _ (some 104) _ = _
                                simp only [Act.put, List.setIfInBounds_toArray, List.set_cons_zero, List.set_cons_succ, i64_w, i32_w]
                                rfl
                              refine pure_ (i := 14) (N := some 16) (v := ?_) (a' := ?_) #[true, true, true, true, true, true, true, true, true, true, true, true, true, true, true] rfl rfl (any_of HT_.out (by kernel_rfl)) (fun _ _ _ h => h) (Or.inl ⟨by rfl, ?_⟩) ?_ ?_
                              rotate_left
                              · intro w'
                                go_simp
                                with_reducible rfl
                              rotate_left
                              · simp only [Act.put, List.setIfInBounds_toArray, List.set_cons_zero, List.set_cons_succ, i64_w, i32_w]
                                rfl
                              refine done_ (done_of HT_.out (by kernel_rfl)) ?_
                              try go_wp2
                              first | ((go_roundg k3); (case measure => have := HK1.out; have := HK2.out; have := HK3.out; omega); (case rel => exact ⟨(y308), (y315), (wrap64 (x17_3 + 2)), (by first | rfl | (simp; done) | (simp [*]; done)), H', ⟨by have := HK1.out; have := HK2.out; have := HK3.out; omega⟩, ⟨by exact upR HO310.out⟩, ⟨by exact upR HO_8.out⟩, ⟨by (with_reducible repeat (first | apply Kd.R_alloc | apply Kd.R_drewN | apply Kd.R_drew)); exact Kd.R_mono HO317.out (fun _ hk => ⟨hk.2, hk.1⟩)⟩, ⟨by first | exact upB HB.out | exact HB.out⟩⟩)) | ((try simp only [← hji53] at H'); (try simp only [← hji53]); (go_roundg k3); (case measure => have := HK1.out; have := HK2.out; have := HK3.out; omega); (case rel => exact ⟨(y308), (y315), (wrap64 (x17_3 + 2)), (by first | rfl | (simp; done) | (simp [*]; done)), H', ⟨by have := HK1.out; have := HK2.out; have := HK3.out; omega⟩, ⟨by exact upR HO310.out⟩, ⟨by exact upR HO_8.out⟩, ⟨by (with_reducible repeat (first | apply Kd.R_alloc | apply Kd.R_drewN | apply Kd.R_drew)); exact Kd.R_mono HO317.out (fun _ hk => ⟨hk.2, hk.1⟩)⟩, ⟨by first | exact upB HB.out | exact HB.out⟩⟩))
                            · rw [if_neg c59] at H
                              exact absurd H (by simp)
                          · rw [if_neg c56] at H
                            exact absurd H (by simp)
                        · rw [if_neg c54] at H
                          exact absurd H (by simp)
                      · rw [if_neg c52] at H
                        exact absurd H (by simp)
                    · rw [if_neg c51] at H
                      exact absurd H (by simp)
                  · rw [if_neg c50] at H
                    have c50b0 : decide ((wrap64 (x17_3 + 1)) < (x8_2.length : Int)) = false := decide_eq_false c50
                    clear c50
                    have H' := Aside0.mk H
                    clear H
                    go_wp2
                    first | ((go_roundg k3); (case measure => have := HK1.out; have := HK2.out; have := HK3.out; omega); (case rel => exact ⟨(x7_3), (x16_3), H', ⟨by have := HK1.out; have := HK2.out; have := HK3.out; omega⟩, ⟨by (with_reducible repeat (first | apply Kd.R_alloc | apply Kd.R_drewN | apply Kd.R_drew)); exact Kd.R_mono HO_7.out (fun _ hk => hk.2)⟩, ⟨by (with_reducible repeat (first | apply Kd.R_alloc | apply Kd.R_drewN | apply Kd.R_drew)); exact Kd.R_mono HO_16.out (fun _ hk => hk.1)⟩, ⟨by first | exact upB HB.out | exact HB.out⟩⟩)) | ((try simp only [← hji53] at H'); (try simp only [← hji53]); (go_roundg k3); (case measure => have := HK1.out; have := HK2.out; have := HK3.out; omega); (case rel => exact ⟨(x7_3), (x16_3), H', ⟨by have := HK1.out; have := HK2.out; have := HK3.out; omega⟩, ⟨by (with_reducible repeat (first | apply Kd.R_alloc | apply Kd.R_drewN | apply Kd.R_drew)); exact Kd.R_mono HO_7.out (fun _ hk => hk.2)⟩, ⟨by (with_reducible repeat (first | apply Kd.R_alloc | apply Kd.R_drewN | apply Kd.R_drew)); exact Kd.R_mono HO_16.out (fun _ hk => hk.1)⟩, ⟨by first | exact upB HB.out | exact HB.out⟩⟩))
            · rw [if_neg c48] at H
              have c48b0 : decide (1 < (x8_2.length : Int)) = false := decide_eq_false c48
              have c48b1 : decide (1 < x8_2.length) = false := decide_eq_false (by omega)
              clear c48
              obtain rfl := Option.some.inj H
              obtain ⟨Ao66, co66, eo66⟩ := Kd.R_slice HO_8.out
              subst eo66
              go_wp2
              go_ret
              exact ⟨_, by first | rfl | (simp [errW_none, errW_some] <;> rfl) | (simp [*, errW_none, errW_some] <;> rfl), by (with_reducible repeat (first | apply Kd.R_alloc | apply Kd.R_drewN | apply Kd.R_drew)); exact Kd.R_mono HO_7.out (fun _ hk => trivial), by first | exact upB HB.out | exact HB.out⟩

end Go.Proofs.YtfhdknjccmcgdaaDoor.P
