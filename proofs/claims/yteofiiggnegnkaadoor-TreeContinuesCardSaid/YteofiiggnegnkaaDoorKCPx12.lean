import Derived.Test.YteofiiggnegnkaaDoorKPx0
import Derived.Test.YteofiiggnegnkaaDoorKPx4
import Derived.Test.YteofiiggnegnkaaDoorKCPx5
import Derived.Test.YteofiiggnegnkaaDoorKD
import Derived.Test.YteofiiggnegnkaaDoorKTb
set_option linter.unusedVariables false
set_option linter.unusedSimpArgs false
-- PRINTED by print.py (a twelfth state) out of the translation. Not trusted: Lean checks it.
namespace Go.Proofs.YteofiiggnegnkaaDoor.P
open Go.RowKit Go.Proofs.YteofiiggnegnkaaDoorW.PrintWords Go.Proofs.YteofiiggnegnkaaDoorW.PrintLast Go.Proofs.YteofiiggnegnkaaDoorW.PrintMore
attribute [local go_sem] max2_int min2_int max_two min_two max_three min_three max_four min_four   -- for this text's walks alone
set_option linter.unusedVariables false
set_option linter.unusedSimpArgs false

/-! ### pandectref02_Texts: function 23 -/
def pandectref02_Texts.f : Nat → List ByteArray → Option (List ByteArray)
  | 0, _ => none
  | k + 1, l0 => if (l0.length : Int) = 0 then ((pandectref01_Joined.f k (([(⟨#[101, 109, 112, 116, 121]⟩ : ByteArray)] : List ByteArray))).bind fun t477 => (some (([t477] : List ByteArray)))) else (if (l0.length : Int) = 1 then (if 0 < (l0.length : Int) then ((pandectref01_Joined.f k (([(⟨#[108, 101, 97, 102]⟩ : ByteArray), rdOf ByteArray.empty l0 0] : List ByteArray))).bind fun t485 => (some (([t485] : List ByteArray)))) else (none)) else ((pandectref02_Half.f k (l0.length : Int)).bind fun t489 => (if 0 ≤ t489 then (if t489 ≤ (l0.length : Int) then ((pandectref02_Root.f k (l0.take (t489 : Int).toNat)).bind fun t491 => ((pandectref02_Root.f k (l0.drop (t489 : Int).toNat)).bind fun t493 => ((pandectref01_Joined.f k (([(⟨#[110, 111, 100, 101]⟩ : ByteArray), t491, t493] : List ByteArray))).bind fun t497 => ((pandectref02_Texts.f k (l0.take (t489 : Int).toNat)).bind fun t499 => ((pandectref02_Texts.f k (l0.drop (t489 : Int).toNat)).bind fun t503 => (if t499.length + t503.length < 8796093022208 then ((some (t499 ++ t503 : List ByteArray)).bind fun y506 => ((some (([t497] : List ByteArray) : List ByteArray)).bind fun y509 => (if y506.length + y509.length < 8796093022208 then (some (y506 ++ y509)) else (none)))) else (none))))))) else (none)) else (none))))
def pandectref02_Texts.T7 : Bool × List (List Nat × List Nat) := (true, [([], []), ([], []), ([0, 1], [0, 1]), ([2], [2]), ([], []), ([], []), ([4, 5], [4, 5]), ([6, 3], [6]), ([3, 7], [3, 7]), ([8, 7], [8]), ([9, 9, 0, 1, 2, 3, 4, 5, 6, 7, 8, 9], [9])])
def pandectref02_Texts.B7 : List Nat := [0, 0, 3, 7, 0, 0, 48, 127, 255, 511, 1023]
theorem pandectref02_Texts.tab7 : rtab .any (opsOf Tryd.f23 7) = pandectref02_Texts.T7 := by kernel_rfl
theorem pandectref02_Texts.bits7 : waitsOk pandectref02_Texts.T7.2 pandectref02_Texts.B7 = true := by kernel_rfl
def pandectref02_Texts.T8 : Bool × List (List Nat × List Nat) := (true, [([], []), ([], []), ([0, 1], [0, 1]), ([2], [2]), ([], []), ([], []), ([4, 5], [4, 5]), ([6, 3], [6]), ([3, 7, 7], [3, 7]), ([], []), ([9], [9]), ([8, 10, 8], [8, 10]), ([11, 11, 0, 1, 2, 3, 4, 5, 6, 7, 8, 9, 10, 11], [11])])
def pandectref02_Texts.B8 : List Nat := [0, 0, 3, 7, 0, 0, 48, 127, 255, 0, 512, 2047, 4095]
theorem pandectref02_Texts.tab8 : rtab .any (opsOf Tryd.f23 8) = pandectref02_Texts.T8 := by kernel_rfl
theorem pandectref02_Texts.bits8 : waitsOk pandectref02_Texts.T8.2 pandectref02_Texts.B8 = true := by kernel_rfl
set_option maxHeartbeats 8000000 in
set_option maxRecDepth 100000 in
theorem pandectref02_Texts.calls (k : Nat) : ∀ (A0 : Option Addr) (c0 : Nat) (l0 : List ByteArray) (r : List ByteArray) (w : World) (hr0 : Kd.C Kd.string w A0 l0.length l0) (hc0 : l0.length ≤ c0) (h : pandectref02_Texts.f k l0 = some r),
    Calls Tryd.prog 23 #[.slice A0 l0.length c0] w fun e w' => ∃ v0_ : Value, e = .returned (v0_) ∧ Kd.R Kd.string 9 w' w.heap.size (fun _ => True) v0_ r ∧ Below w.heap.size w w' := by
  induction k using Nat.strongRecOn with
  | _ k ih =>
  intro A0 c0 l0 r w hr0 hc0 h
  cases k with
  | zero => exact absurd h (by simp [pandectref02_Texts.f])
  | succ k =>
  simp only [pandectref02_Texts.f] at h
  have HR0 := Aside0.mk hr0
  have HC0 := Aside0.mk hc0
  clear hr0 hc0
  have HB := Aside0.mk (Below.refl w.heap.size w)
  have H : (if (l0.length : Int) = 0 then ((pandectref01_Joined.f k (([(⟨#[101, 109, 112, 116, 121]⟩ : ByteArray)] : List ByteArray))).bind fun t477 => (some (([t477] : List ByteArray)))) else (if (l0.length : Int) = 1 then (if 0 < (l0.length : Int) then ((pandectref01_Joined.f k (([(⟨#[108, 101, 97, 102]⟩ : ByteArray), rdOf ByteArray.empty l0 0] : List ByteArray))).bind fun t485 => (some (([t485] : List ByteArray)))) else (none)) else ((pandectref02_Half.f k (l0.length : Int)).bind fun t489 => (if 0 ≤ t489 then (if t489 ≤ (l0.length : Int) then ((pandectref02_Root.f k (l0.take (t489 : Int).toNat)).bind fun t491 => ((pandectref02_Root.f k (l0.drop (t489 : Int).toNat)).bind fun t493 => ((pandectref01_Joined.f k (([(⟨#[110, 111, 100, 101]⟩ : ByteArray), t491, t493] : List ByteArray))).bind fun t497 => ((pandectref02_Texts.f k (l0.take (t489 : Int).toNat)).bind fun t499 => ((pandectref02_Texts.f k (l0.drop (t489 : Int).toNat)).bind fun t503 => (if t499.length + t503.length < 8796093022208 then ((some (t499 ++ t503 : List ByteArray)).bind fun y506 => ((some (([t497] : List ByteArray) : List ByteArray)).bind fun y509 => (if y506.length + y509.length < 8796093022208 then (some (y506 ++ y509)) else (none)))) else (none))))))) else (none)) else (none))))) = some r := h
  clear h
  by_cases c2 : (l0.length : Int) = 0
  · rw [if_pos c2] at H
    have c2b0 : ((l0.length : Int) == 0) = true := beq_iff_eq.mpr c2
    have c2b1 : ((l0.length : Int) != 0) = false := bne_eq_false_iff_eq.mpr c2
    clear c2
    obtain ⟨y474, hy474⟩ : ∃ y_ : List ByteArray, y_ = (([(⟨#[101, 109, 112, 116, 121]⟩ : ByteArray)] : List ByteArray)) := ⟨_, rfl⟩
    replace H : ((pandectref01_Joined.f k y474).bind fun t477 => (some (([t477] : List ByteArray)))) = some r := by first | (rw [hy474]; with_reducible exact H) | (have H2_ := (Option.bind_some _ _).symm.trans H; rw [hy474]; with_reducible exact H2_) | (have H2_ := (Option.bind_some _ _).symm.trans H; with_reducible exact H2_) | with_reducible exact H | (rw [hy474]; exact H) | exact H
    have Ny474 := Aside0.mk hy474
    clear hy474
    replace H := Option.bind_eq_some_iff.mp H
    obtain ⟨t477, A30, H⟩ := H
    replace H : (some (([t477] : List ByteArray))) = some r := H
    have A3 := Aside0.mk A30
    clear A30
    obtain ⟨y478, hy478⟩ : ∃ y_ : List ByteArray, y_ = (([t477] : List ByteArray)) := ⟨_, rfl⟩
    replace H : (some y478) = some r := by first | (rw [hy478]; with_reducible exact H) | (have H2_ := (Option.bind_some _ _).symm.trans H; rw [hy478]; with_reducible exact H2_) | (have H2_ := (Option.bind_some _ _).symm.trans H; with_reducible exact H2_) | with_reducible exact H | (rw [hy478]; exact H) | exact H
    have Ny478 := Aside0.mk hy478
    clear hy478
    obtain rfl := Option.some.inj H
    go_enter Tryd.func23, Tryd.ntmps23
    go_wp2_with (first | ((with_reducible refine gate_dst (N := 10) rfl ?_); refine Kd.R_lit Kd.string _ 9 ?hg (N := 10) ?hd (xs := ([(⟨#[101, 109, 112, 116, 121]⟩ : ByteArray)] : List ByteArray)) (inner := [.string (⟨#[101, 109, 112, 116, 121]⟩ : ByteArray)]) (ok := fun _ => True) (okp := fun _ => True) ?hr ?hp (fun _ hk => hk) trivial (Below.refl _ _) (Nat.le_refl _) (by simp) ?_; (case hd => rfl); (case hg => rfl); (case hr => first | (go_simp; done) | (go_simp; rfl)); (case hp => exact (Reps.one (show Kd.M Kd.string _ _ _ (⟨#[101, 109, 112, 116, 121]⟩ : ByteArray) [.string (⟨#[101, 109, 112, 116, 121]⟩ : ByteArray)] from rfl) (Reps.none _ _))); intro v475 w4 ho5 hb hg_ hnew_; clear hg_ hnew_; (first | rw [← Ny474.out] at ho5 | (simp only [Int.reduceToNat] at ho5; rw [← Ny474.out] at ho5)); have n0_ := Aside0.mk (Kd.R_lower ho5 (below_size (by first | exact upB HB.out | exact HB.out))); have n1_ := Aside0.mk (below_step (by first | exact upB HB.out | exact HB.out) hb); clear HB; have HO476 := n0_; have HB := n1_; clear n0_ n1_; clear hb ho5; obtain ⟨Ao6, co6, eo6⟩ := Kd.R_slice HO476.out; subst eo6) | ((with_reducible refine gate_callee (f := 49) rfl ?_); refine goesL_ (some 11) rfl rfl Tryd.func49 (by kernel_rfl) rfl #[.slice Ao6 y474.length co6] rfl (by (try simp only [List.map_toArray, List.map_cons, List.map_nil]); first | done | rfl | (simp only [List.length_drop, List.length_take]; rfl)) ?_; (with_reducible refine (pandectref01_Joined.calls k _ _ y474 t477 _ ?side1 ?side2 A3.out).mono ?_); (case side1 => exact upC ((Kd.R_reads' HO476.out).2.2)); (case side2 => exact (Kd.R_reads' HO476.out).2.1); rintro e w7 ⟨rfl, hb⟩; refine ⟨_, rfl, ?_⟩; have n0_ := Aside0.mk (Kd.R_below (by exact upR HO476.out) hb); have n1_ := Aside0.mk (below_step (by first | exact upB HB.out | exact HB.out) hb); clear HO476; clear HB; have HO476 := n0_; have HB := n1_; clear n0_ n1_; (try clear hb); (try clear hb2); (try clear hk); (try clear hi)) | ((with_reducible refine gate_dst (N := 12) rfl ?_); refine Kd.R_lit Kd.string _ 9 ?hg (N := 12) ?hd (xs := ([t477] : List ByteArray)) (inner := [.string t477]) (ok := fun _ => True) (okp := fun _ => True) ?hr ?hp (fun _ hk => hk) trivial (Below.refl _ _) (Nat.le_refl _) (by simp) ?_; (case hd => rfl); (case hg => rfl); (case hr => first | (go_simp; done) | (go_simp; rfl)); (case hp => exact (Reps.one (show Kd.M Kd.string _ _ _ t477 [.string t477] from rfl) (Reps.none _ _))); intro v479 w8 ho9 hb hg_ hnew_; clear hg_ hnew_; (first | rw [← Ny478.out] at ho9 | (simp only [Int.reduceToNat] at ho9; rw [← Ny478.out] at ho9)); have n0_ := Aside0.mk (Kd.R_elder' (by exact upR HO476.out) (Kd.R_base ho9) hb); have n1_ := Aside0.mk (Kd.R_lower (Kd.R_new' ho9 (Kd.R_lt (by exact upR HO476.out))) (below_size (by first | exact upB HB.out | exact HB.out))); have n2_ := Aside0.mk (below_step (by first | exact upB HB.out | exact HB.out) hb); clear HO476; clear HB; have HO476 := n0_; have HO480 := n1_; have HB := n2_; clear n0_ n1_ n2_; clear hb ho9))
    go_ret
    exact ⟨_, by first | rfl | (simp [errW_none, errW_some] <;> rfl) | (simp [*, errW_none, errW_some] <;> rfl), by (with_reducible repeat (first | apply Kd.R_alloc | apply Kd.R_drewN | apply Kd.R_drew)); exact Kd.R_mono HO480.out (fun _ hk => trivial), by first | exact upB HB.out | exact HB.out⟩
  · rw [if_neg c2] at H
    have c2b0 : ((l0.length : Int) == 0) = false := beq_eq_false_iff_ne.mpr c2
    have c2b1 : ((l0.length : Int) != 0) = true := bne_iff_ne.mpr c2
    have c2b2 : ¬ (l0 = []) := fun h_ => c2 (by rw [h_]; rfl)
    by_cases c10 : (l0.length : Int) = 1
    · rw [if_pos c10] at H
      have c10b0 : ((l0.length : Int) == 1) = true := beq_iff_eq.mpr c10
      have c10b1 : ((l0.length : Int) != 1) = false := bne_eq_false_iff_eq.mpr c10
      clear c10
      by_cases c11 : 0 < (l0.length : Int)
      · rw [if_pos c11] at H
        have c11b0 : decide (0 < (l0.length : Int)) = true := decide_eq_true c11
        have c11b1 : decide (0 < l0.length) = true := decide_eq_true (by omega)
        clear c11
        obtain ⟨y482, hy482⟩ : ∃ y_ : List ByteArray, y_ = (([(⟨#[108, 101, 97, 102]⟩ : ByteArray), rdOf ByteArray.empty l0 0] : List ByteArray)) := ⟨_, rfl⟩
        replace H : ((pandectref01_Joined.f k y482).bind fun t485 => (some (([t485] : List ByteArray)))) = some r := by first | (rw [hy482]; with_reducible exact H) | (have H2_ := (Option.bind_some _ _).symm.trans H; rw [hy482]; with_reducible exact H2_) | (have H2_ := (Option.bind_some _ _).symm.trans H; with_reducible exact H2_) | with_reducible exact H | (rw [hy482]; exact H) | exact H
        have Ny482 := Aside0.mk hy482
        clear hy482
        replace H := Option.bind_eq_some_iff.mp H
        obtain ⟨t485, A120, H⟩ := H
        replace H : (some (([t485] : List ByteArray))) = some r := H
        have A12 := Aside0.mk A120
        clear A120
        obtain ⟨y486, hy486⟩ : ∃ y_ : List ByteArray, y_ = (([t485] : List ByteArray)) := ⟨_, rfl⟩
        replace H : (some y486) = some r := by first | (rw [hy486]; with_reducible exact H) | (have H2_ := (Option.bind_some _ _).symm.trans H; rw [hy486]; with_reducible exact H2_) | (have H2_ := (Option.bind_some _ _).symm.trans H; with_reducible exact H2_) | with_reducible exact H | (rw [hy486]; exact H) | exact H
        have Ny486 := Aside0.mk hy486
        clear hy486
        obtain rfl := Option.some.inj H
        have p481 : 0 ≤ (0 : Int) := (by omega)
        have q481 : 0 < (l0.length : Int) := of_decide_eq_true (by first | (with_reducible assumption) | assumption)
        obtain ⟨ad481, e481, hx481_0⟩ := Kd.at_string HR0.out 0 p481 q481
        cases e481
        have qi481 : (0 < l0.length) = True := eq_true (by omega)
        (try rw [show ((0 : Int)).toNat = 0 from rfl] at hx481_0)
        (try rw [Addr.add_zero'] at hx481_0)
        replace p481 := eq_true p481
        replace q481 := eq_true q481
        go_enter Tryd.func23, Tryd.ntmps23
        go_wp2_with (first | ((with_reducible refine gate_dst (N := 18) rfl ?_); refine Kd.R_lit Kd.string _ 9 ?hg (N := 18) ?hd (xs := ([(⟨#[108, 101, 97, 102]⟩ : ByteArray), rdOf ByteArray.empty l0 0] : List ByteArray)) (inner := [.string (⟨#[108, 101, 97, 102]⟩ : ByteArray), .string (rdOf ByteArray.empty l0 0)]) (ok := fun _ => True) (okp := fun _ => True) ?hr ?hp (fun _ hk => hk) trivial (Below.refl _ _) (Nat.le_refl _) (by simp) ?_; (case hd => rfl); (case hg => rfl); (case hr => first | (go_simp; done) | (go_simp; rfl)); (case hp => exact (Reps.one (show Kd.M Kd.string _ _ _ (⟨#[108, 101, 97, 102]⟩ : ByteArray) [.string (⟨#[108, 101, 97, 102]⟩ : ByteArray)] from rfl) (Reps.one (show Kd.M Kd.string _ _ _ (rdOf ByteArray.empty l0 0) [.string (rdOf ByteArray.empty l0 0)] from rfl) (Reps.none _ _)))); intro v483 w13 ho14 hb hg_ hnew_; clear hg_ hnew_; (first | rw [← Ny482.out] at ho14 | (simp only [Int.reduceToNat] at ho14; rw [← Ny482.out] at ho14)); have n0_ := Aside0.mk (Kd.R_lower ho14 (below_size (by first | exact upB HB.out | exact HB.out))); have n1_ := Aside0.mk (below_step (by first | exact upB HB.out | exact HB.out) hb); clear HB; have HO484 := n0_; have HB := n1_; clear n0_ n1_; clear hb ho14; obtain ⟨Ao15, co15, eo15⟩ := Kd.R_slice HO484.out; subst eo15) | ((with_reducible refine gate_callee (f := 49) rfl ?_); refine goesL_ (some 19) rfl rfl Tryd.func49 (by kernel_rfl) rfl #[.slice Ao15 y482.length co15] rfl (by (try simp only [List.map_toArray, List.map_cons, List.map_nil]); first | done | rfl | (simp only [List.length_drop, List.length_take]; rfl)) ?_; (with_reducible refine (pandectref01_Joined.calls k _ _ y482 t485 _ ?side1 ?side2 A12.out).mono ?_); (case side1 => exact upC ((Kd.R_reads' HO484.out).2.2)); (case side2 => exact (Kd.R_reads' HO484.out).2.1); rintro e w16 ⟨rfl, hb⟩; refine ⟨_, rfl, ?_⟩; have n0_ := Aside0.mk (Kd.R_below (by exact upR HO484.out) hb); have n1_ := Aside0.mk (below_step (by first | exact upB HB.out | exact HB.out) hb); clear HO484; clear HB; have HO484 := n0_; have HB := n1_; clear n0_ n1_; (try clear hb); (try clear hb2); (try clear hk); (try clear hi)) | ((with_reducible refine gate_dst (N := 20) rfl ?_); refine Kd.R_lit Kd.string _ 9 ?hg (N := 20) ?hd (xs := ([t485] : List ByteArray)) (inner := [.string t485]) (ok := fun _ => True) (okp := fun _ => True) ?hr ?hp (fun _ hk => hk) trivial (Below.refl _ _) (Nat.le_refl _) (by simp) ?_; (case hd => rfl); (case hg => rfl); (case hr => first | (go_simp; done) | (go_simp; rfl)); (case hp => exact (Reps.one (show Kd.M Kd.string _ _ _ t485 [.string t485] from rfl) (Reps.none _ _))); intro v487 w17 ho18 hb hg_ hnew_; clear hg_ hnew_; (first | rw [← Ny486.out] at ho18 | (simp only [Int.reduceToNat] at ho18; rw [← Ny486.out] at ho18)); have n0_ := Aside0.mk (Kd.R_elder' (by exact upR HO484.out) (Kd.R_base ho18) hb); have n1_ := Aside0.mk (Kd.R_lower (Kd.R_new' ho18 (Kd.R_lt (by exact upR HO484.out))) (below_size (by first | exact upB HB.out | exact HB.out))); have n2_ := Aside0.mk (below_step (by first | exact upB HB.out | exact HB.out) hb); clear HO484; clear HB; have HO484 := n0_; have HO488 := n1_; have HB := n2_; clear n0_ n1_ n2_; clear hb ho18))
        go_ret
        exact ⟨_, by first | rfl | (simp [errW_none, errW_some] <;> rfl) | (simp [*, errW_none, errW_some] <;> rfl), by (with_reducible repeat (first | apply Kd.R_alloc | apply Kd.R_drewN | apply Kd.R_drew)); exact Kd.R_mono HO488.out (fun _ hk => trivial), by first | exact upB HB.out | exact HB.out⟩
      · rw [if_neg c11] at H
        exact absurd H (by simp)
    · rw [if_neg c10] at H
      have c10b0 : ((l0.length : Int) == 1) = false := beq_eq_false_iff_ne.mpr c10
      have c10b1 : ((l0.length : Int) != 1) = true := bne_iff_ne.mpr c10
      replace H := Option.bind_eq_some_iff.mp H
      obtain ⟨t489, A190, H⟩ := H
      replace H : (if 0 ≤ t489 then (if t489 ≤ (l0.length : Int) then ((pandectref02_Root.f k (l0.take (t489 : Int).toNat)).bind fun t491 => ((pandectref02_Root.f k (l0.drop (t489 : Int).toNat)).bind fun t493 => ((pandectref01_Joined.f k (([(⟨#[110, 111, 100, 101]⟩ : ByteArray), t491, t493] : List ByteArray))).bind fun t497 => ((pandectref02_Texts.f k (l0.take (t489 : Int).toNat)).bind fun t499 => ((pandectref02_Texts.f k (l0.drop (t489 : Int).toNat)).bind fun t503 => (if t499.length + t503.length < 8796093022208 then ((some (t499 ++ t503 : List ByteArray)).bind fun y506 => ((some (([t497] : List ByteArray) : List ByteArray)).bind fun y509 => (if y506.length + y509.length < 8796093022208 then (some (y506 ++ y509)) else (none)))) else (none))))))) else (none)) else (none)) = some r := H
      have A19 := Aside0.mk A190
      clear A190
      by_cases c20 : 0 ≤ t489
      · rw [if_pos c20] at H
        have c20b0 := eq_true c20
        have c20b1 : decide (0 ≤ t489) = true := decide_eq_true c20
        clear c20
        by_cases c21 : t489 ≤ (l0.length : Int)
        · rw [if_pos c21] at H
          have c21b0 := eq_true c21
          have c21b1 : decide (t489 ≤ (l0.length : Int)) = true := decide_eq_true c21
          clear c21
          replace H := Option.bind_eq_some_iff.mp H
          obtain ⟨t491, A220, H⟩ := H
          replace H : ((pandectref02_Root.f k (l0.drop (t489 : Int).toNat)).bind fun t493 => ((pandectref01_Joined.f k (([(⟨#[110, 111, 100, 101]⟩ : ByteArray), t491, t493] : List ByteArray))).bind fun t497 => ((pandectref02_Texts.f k (l0.take (t489 : Int).toNat)).bind fun t499 => ((pandectref02_Texts.f k (l0.drop (t489 : Int).toNat)).bind fun t503 => (if t499.length + t503.length < 8796093022208 then ((some (t499 ++ t503 : List ByteArray)).bind fun y506 => ((some (([t497] : List ByteArray) : List ByteArray)).bind fun y509 => (if y506.length + y509.length < 8796093022208 then (some (y506 ++ y509)) else (none)))) else (none)))))) = some r := H
          have A22 := Aside0.mk A220
          clear A220
          have c23b0 := eq_true (of_decide_eq_true (by first | (with_reducible assumption) | assumption) : 0 ≤ t489)
          have c24b0 := eq_true (of_decide_eq_true (by first | (with_reducible assumption) | assumption) : t489 ≤ (l0.length : Int))
          replace H := Option.bind_eq_some_iff.mp H
          obtain ⟨t493, A250, H⟩ := H
          replace H : ((pandectref01_Joined.f k (([(⟨#[110, 111, 100, 101]⟩ : ByteArray), t491, t493] : List ByteArray))).bind fun t497 => ((pandectref02_Texts.f k (l0.take (t489 : Int).toNat)).bind fun t499 => ((pandectref02_Texts.f k (l0.drop (t489 : Int).toNat)).bind fun t503 => (if t499.length + t503.length < 8796093022208 then ((some (t499 ++ t503 : List ByteArray)).bind fun y506 => ((some (([t497] : List ByteArray) : List ByteArray)).bind fun y509 => (if y506.length + y509.length < 8796093022208 then (some (y506 ++ y509)) else (none)))) else (none))))) = some r := H
          have A25 := Aside0.mk A250
          clear A250
          obtain ⟨y494, hy494⟩ : ∃ y_ : List ByteArray, y_ = (([(⟨#[110, 111, 100, 101]⟩ : ByteArray), t491, t493] : List ByteArray)) := ⟨_, rfl⟩
          replace H : ((pandectref01_Joined.f k y494).bind fun t497 => ((pandectref02_Texts.f k (l0.take (t489 : Int).toNat)).bind fun t499 => ((pandectref02_Texts.f k (l0.drop (t489 : Int).toNat)).bind fun t503 => (if t499.length + t503.length < 8796093022208 then ((some (t499 ++ t503 : List ByteArray)).bind fun y506 => ((some (([t497] : List ByteArray) : List ByteArray)).bind fun y509 => (if y506.length + y509.length < 8796093022208 then (some (y506 ++ y509)) else (none)))) else (none))))) = some r := by first | (rw [hy494]; with_reducible exact H) | (have H2_ := (Option.bind_some _ _).symm.trans H; rw [hy494]; with_reducible exact H2_) | (have H2_ := (Option.bind_some _ _).symm.trans H; with_reducible exact H2_) | with_reducible exact H | (rw [hy494]; exact H) | exact H
          have Ny494 := Aside0.mk hy494
          clear hy494
          replace H := Option.bind_eq_some_iff.mp H
          obtain ⟨t497, A260, H⟩ := H
          replace H : ((pandectref02_Texts.f k (l0.take (t489 : Int).toNat)).bind fun t499 => ((pandectref02_Texts.f k (l0.drop (t489 : Int).toNat)).bind fun t503 => (if t499.length + t503.length < 8796093022208 then ((some (t499 ++ t503 : List ByteArray)).bind fun y506 => ((some (([t497] : List ByteArray) : List ByteArray)).bind fun y509 => (if y506.length + y509.length < 8796093022208 then (some (y506 ++ y509)) else (none)))) else (none)))) = some r := H
          have A26 := Aside0.mk A260
          clear A260
          have c27b0 := eq_true (of_decide_eq_true (by first | (with_reducible assumption) | assumption) : 0 ≤ t489)
          have c28b0 := eq_true (of_decide_eq_true (by first | (with_reducible assumption) | assumption) : t489 ≤ (l0.length : Int))
          replace H := Option.bind_eq_some_iff.mp H
          obtain ⟨t499, A290, H⟩ := H
          replace H : ((pandectref02_Texts.f k (l0.drop (t489 : Int).toNat)).bind fun t503 => (if t499.length + t503.length < 8796093022208 then ((some (t499 ++ t503 : List ByteArray)).bind fun y506 => ((some (([t497] : List ByteArray) : List ByteArray)).bind fun y509 => (if y506.length + y509.length < 8796093022208 then (some (y506 ++ y509)) else (none)))) else (none))) = some r := H
          have A29 := Aside0.mk A290
          clear A290
          have c30b0 := eq_true (of_decide_eq_true (by first | (with_reducible assumption) | assumption) : 0 ≤ t489)
          have c31b0 := eq_true (of_decide_eq_true (by first | (with_reducible assumption) | assumption) : t489 ≤ (l0.length : Int))
          replace H := Option.bind_eq_some_iff.mp H
          obtain ⟨t503, A320, H⟩ := H
          replace H : (if t499.length + t503.length < 8796093022208 then ((some (t499 ++ t503 : List ByteArray)).bind fun y506 => ((some (([t497] : List ByteArray) : List ByteArray)).bind fun y509 => (if y506.length + y509.length < 8796093022208 then (some (y506 ++ y509)) else (none)))) else (none)) = some r := H
          have A32 := Aside0.mk A320
          clear A320
          by_cases c33 : t499.length + t503.length < 8796093022208
          · rw [if_pos c33] at H
            have LMc33 := Aside0.mk c33
            clear c33
            obtain ⟨y506, hy506⟩ : ∃ y_ : List ByteArray, y_ = (t499 ++ t503) := ⟨_, rfl⟩
            replace H : ((some (([t497] : List ByteArray) : List ByteArray)).bind fun y509 => (if y506.length + y509.length < 8796093022208 then (some (y506 ++ y509)) else (none))) = some r := by first | (rw [hy506]; with_reducible exact H) | (have H2_ := (Option.bind_some _ _).symm.trans H; rw [hy506]; with_reducible exact H2_) | (have H2_ := (Option.bind_some _ _).symm.trans H; with_reducible exact H2_) | with_reducible exact H | (rw [hy506]; exact H) | exact H
            have Ny506 := Aside0.mk hy506
            clear hy506
            obtain ⟨y509, hy509⟩ : ∃ y_ : List ByteArray, y_ = (([t497] : List ByteArray)) := ⟨_, rfl⟩
            replace H : (if y506.length + y509.length < 8796093022208 then (some (y506 ++ y509)) else (none)) = some r := by first | (rw [hy509]; with_reducible exact H) | (have H2_ := (Option.bind_some _ _).symm.trans H; rw [hy509]; with_reducible exact H2_) | (have H2_ := (Option.bind_some _ _).symm.trans H; with_reducible exact H2_) | with_reducible exact H | (rw [hy509]; exact H) | exact H
            have Ny509 := Aside0.mk hy509
            clear hy509
            by_cases c34 : y506.length + y509.length < 8796093022208
            · rw [if_pos c34] at H
              have LMc34 := Aside0.mk c34
              clear c34
              obtain ⟨y512, hy512⟩ : ∃ y_ : List ByteArray, y_ = (y506 ++ y509) := ⟨_, rfl⟩
              replace H : (some y512) = some r := by first | (rw [hy512]; with_reducible exact H) | (have H2_ := (Option.bind_some _ _).symm.trans H; rw [hy512]; with_reducible exact H2_) | (have H2_ := (Option.bind_some _ _).symm.trans H; with_reducible exact H2_) | with_reducible exact H | (rw [hy512]; exact H) | exact H
              have Ny512 := Aside0.mk hy512
              clear hy512
              obtain rfl := Option.some.inj H
              go_enter Tryd.func23, Tryd.ntmps23
              try go_wp2_with (first | ((with_reducible refine gate_callee (f := 35) rfl ?_); refine goesL_ (some 22) rfl rfl Tryd.func35 (by kernel_rfl) rfl #[.int .i64 (l0.length : Int)] rfl (by (try simp only [List.map_toArray, List.map_cons, List.map_nil]); first | done | rfl | (simp only [List.length_drop, List.length_take]; rfl)) ?_; (with_reducible refine (pandectref02_Half.calls k (l0.length : Int) t489 _ A19.out).mono ?_); rintro e w' ⟨rfl, ⟨nd, rfl⟩⟩; refine ⟨_, rfl, ?_⟩))
              rw [drewN_self w]
              generalize hq_ : World.drewN w _ = w35
              have n0_ := Aside0.mk (below_at hq_ HB.out)
              clear HB
              have HB := n0_
              clear n0_
              clear hq_
              have n0_ := Aside0.mk (below_drew1 HB.out)
              clear HB
              have HB := n0_
              clear n0_
              (try clear hcut37)
              obtain ⟨i037, hi037, _, hsz37, _⟩ := info_parts info9
              obtain ⟨hcut37, hA37, hC37⟩ := print_take_of (P := Tryd.prog) Value.string (⟨#[]⟩ : ByteArray) 22 9 .i64 Tryd.underlying22 hi037 hsz37 A0 c0 l0 t489 (of_decide_eq_true (by first | (with_reducible assumption) | assumption)) (of_decide_eq_true (by first | (with_reducible assumption) | assumption)) HC0.out
              have HR490 := Aside0.mk (Kd.C_of_reads (h1 := fun _ => rfl) (hA37 _ (Kd.reads_of_C HR0.out)))
              have HC490 := Aside0.mk hC37
              clear hA37 hC37 hi037 hsz37
              (try clear hcut38)
              obtain ⟨i038, hi038, _, hsz38, _⟩ := info_parts info9
              obtain ⟨A38, hcut38, hA38, hC38⟩ := print_drop_of (P := Tryd.prog) Value.string (⟨#[]⟩ : ByteArray) 22 9 .i64 Tryd.underlying22 hi038 hsz38 A0 c0 l0 t489 (of_decide_eq_true (by first | (with_reducible assumption) | assumption)) (of_decide_eq_true (by first | (with_reducible assumption) | assumption)) HC0.out
              have HR492 := Aside0.mk (Kd.C_of_reads (h1 := fun _ => rfl) (hA38 _ (Kd.reads_of_C HR0.out)))
              have HC492 := Aside0.mk hC38
              clear hA38 hC38 hi038 hsz38
              refine start_ (n := 11) (S := fun w' => True) (ds := []) #[false, false, false, false, false, false, false, false, false, false, false] (by kernel_rfl) rfl rfl trivial (fun hHeld => ?_); refine with_tabW pandectref02_Texts.tab7 pandectref02_Texts.bits7 (fun HT_ HW_ => ?_)
              generalize w35.drew = w36 at HB HR490 HR492 hHeld ⊢
              refine pure_ (i := 0) (N := some 23) (v := ?_) (a' := ?_) #[true, false, false, false, false, false, false, false, false, false, false] rfl rfl (any_of HT_.out (by kernel_rfl)) (fun _ _ _ h => h) (Or.inl ⟨by rfl, ?_⟩) ?_ ?_
              rotate_left
              · intro w'
                go_simp
                with_reducible rfl
              rotate_left
              · simp only [Act.put, List.setIfInBounds_toArray, List.set_cons_zero, List.set_cons_succ, i64_w, i32_w]
                rfl
              refine pure_ (i := 1) (N := some 24) (v := ?_) (a' := ?_) #[true, true, false, false, false, false, false, false, false, false, false] rfl rfl (any_of HT_.out (by kernel_rfl)) (fun _ _ _ h => h) (Or.inl ⟨by rfl, ?_⟩) ?_ ?_
              rotate_left
              · intro w'
                go_simp
                with_reducible rfl
              rotate_left
              · simp only [Act.put, List.setIfInBounds_toArray, List.set_cons_zero, List.set_cons_succ, i64_w, i32_w]
                rfl
              refine pure_ (i := 2) (N := some 25) (v := ?_) (a' := ?_) #[true, true, true, false, false, false, false, false, false, false, false] rfl rfl (any_of HT_.out (by kernel_rfl)) (fun _ _ _ h => h) (Or.inl ⟨by rfl, ?_⟩) ?_ ?_
              rotate_left
              · intro w'
                go_simp
                with_reducible rfl
              rotate_left
              · simp only [Act.put, List.setIfInBounds_toArray, List.set_cons_zero, List.set_cons_succ, i64_w, i32_w]
                rfl
              refine pure_ (i := 4) (N := some 27) (v := ?_) (a' := ?_) #[true, true, true, false, true, false, false, false, false, false, false] rfl rfl (any_of HT_.out (by kernel_rfl)) (fun _ _ _ h => h) (Or.inl ⟨by rfl, ?_⟩) ?_ ?_
              rotate_left
              · intro w'
                go_simp
                with_reducible rfl
              rotate_left
              · simp only [Act.put, List.setIfInBounds_toArray, List.set_cons_zero, List.set_cons_succ, i64_w, i32_w]
                rfl
              refine pure_ (i := 5) (N := some 28) (v := ?_) (a' := ?_) #[true, true, true, false, true, true, false, false, false, false, false] rfl rfl (any_of HT_.out (by kernel_rfl)) (fun _ _ _ h => h) (Or.inl ⟨by rfl, ?_⟩) ?_ ?_
              rotate_left
              · intro w'
                go_simp
                with_reducible rfl
              rotate_left
              · simp only [Act.put, List.setIfInBounds_toArray, List.set_cons_zero, List.set_cons_succ, i64_w, i32_w]
                rfl
              refine pure_ (i := 6) (N := some 29) (v := ?_) (a' := ?_) #[true, true, true, false, true, true, true, false, false, false, false] rfl rfl (any_of HT_.out (by kernel_rfl)) (fun _ _ _ h => h) (Or.inl ⟨by rfl, ?_⟩) ?_ ?_
              rotate_left
              · intro w'
                go_simp
                with_reducible rfl
              rotate_left
              · simp only [Act.put, List.setIfInBounds_toArray, List.set_cons_zero, List.set_cons_succ, i64_w, i32_w]
                rfl
              refine one_ (i := 3) (N := some 26) #[true, true, true, true, true, true, true, false, false, false, false] rfl rfl (one_of HT_.out (by kernel_rfl)) (by decide) (fun K hK => ?_)
              refine goes_ Tryd.func16 (by kernel_rfl) rfl #[.slice A0 (l0.take (t489 : Int).toNat).length c0] (by rfl) rfl rfl (by (try simp only [List.map_toArray, List.map_cons, List.map_nil]); first | done | (rw [show (l0.take (t489 : Int).toNat).length = t489.toNat from (by rw [List.length_take]; have h_ : (t489 : Int) ≤ (l0.length : Int) := of_decide_eq_true (by first | (with_reducible assumption) | assumption); omega)] <;> rfl) | rfl | (simp only [List.length_drop, List.length_take]; rfl)) ?_
              with_reducible refine (pandectref02_Root.calls k _ _ (l0.take (t489 : Int).toNat) t491 _ ?side1 ?side2 A22.out).mono ?_
              (case side1 => exact upC ((Kd.C_below HR490.out HB.out)))
              (case side2 => exact HC490.out)
              rintro e w39 ⟨rfl, hb⟩
              refine ⟨_, rfl, ?_⟩
              have n0_ := Aside0.mk (below_step (by first | exact upB HB.out | exact HB.out) hb)
              clear HB
              have HB := n0_
              clear n0_
              (try clear hb)
              (try clear hb2)
              (try clear hk)
              (try clear hi)
              refine hK.out _ _ trivial (fun hHeld => ?_)
              clear hK K
              refine norm_ (a' := ?_) ?_ ?_
              rotate_left
              · show Act.put _ (some 26) _ = _
                simp only [Act.put, List.setIfInBounds_toArray, List.set_cons_zero, List.set_cons_succ, i64_w, i32_w]
                rfl
              refine one_ (i := 7) (N := some 30) #[true, true, true, true, true, true, true, true, false, false, false] rfl rfl (one_of HT_.out (by kernel_rfl)) (by decide) (fun K hK => ?_)
              refine goes_ Tryd.func16 (by kernel_rfl) rfl #[.slice A38 (l0.drop (t489 : Int).toNat).length (c0 - t489.toNat)] (by rfl) rfl rfl (by (try simp only [List.map_toArray, List.map_cons, List.map_nil]); first | done | (rw [show (l0.drop (t489 : Int).toNat).length = (l0.length - t489.toNat) from List.length_drop] <;> rfl) | rfl | (simp only [List.length_drop, List.length_take]; rfl)) ?_
              with_reducible refine (pandectref02_Root.calls k _ _ (l0.drop (t489 : Int).toNat) t493 _ ?side1 ?side2 A25.out).mono ?_
              (case side1 => exact upC ((Kd.C_below HR492.out HB.out)))
              (case side2 => exact HC492.out)
              rintro e w40 ⟨rfl, hb⟩
              refine ⟨_, rfl, ?_⟩
              have n0_ := Aside0.mk (below_step (by first | exact upB HB.out | exact HB.out) hb)
              clear HB
              have HB := n0_
              clear n0_
              (try clear hb)
              (try clear hb2)
              (try clear hk)
              (try clear hi)
              refine hK.out _ _ trivial (fun hHeld => ?_)
              clear hK K
              refine norm_ (a' := ?_) ?_ ?_
              rotate_left
              · show Act.put _ (some 30) _ = _
                simp only [Act.put, List.setIfInBounds_toArray, List.set_cons_zero, List.set_cons_succ, i64_w, i32_w]
                rfl
              refine one_ (i := 8) (N := some 31) #[true, true, true, true, true, true, true, true, true, false, false] rfl rfl (one_of HT_.out (by kernel_rfl)) (by decide) (fun K hK => ?_)
              refine Kd.R_lit_step Kd.string _ 9 ?hg (N := 31) ?hd (xs := ([(⟨#[110, 111, 100, 101]⟩ : ByteArray), t491, t493] : List ByteArray)) (inner := [.string (⟨#[110, 111, 100, 101]⟩ : ByteArray), .string t491, .string t493]) (ok := fun _ => True) (okp := fun _ => True) ?hr ?hp (fun _ hk => hk) trivial (Below.refl _ _) (Nat.le_refl _) (by simp) ?_; (case hd => rfl); (case hg => rfl); (case hr => first | (go_simp; done) | (go_simp; rfl)); (case hp => exact (Reps.one (show Kd.M Kd.string _ _ _ (⟨#[110, 111, 100, 101]⟩ : ByteArray) [.string (⟨#[110, 111, 100, 101]⟩ : ByteArray)] from rfl) (Reps.one (show Kd.M Kd.string _ _ _ t491 [.string t491] from rfl) (Reps.one (show Kd.M Kd.string _ _ _ t493 [.string t493] from rfl) (Reps.none _ _)))))
              intro v495 w41 ho42 hb hg_ hnew_
              clear hg_ hnew_
              (first | rw [← Ny494.out] at ho42 | (simp only [Int.reduceToNat] at ho42; rw [← Ny494.out] at ho42))
              have n0_ := Aside0.mk (Kd.R_lower ho42 (below_size (by first | exact upB HB.out | exact HB.out)))
              have n1_ := Aside0.mk (below_step (by first | exact upB HB.out | exact HB.out) hb)
              clear HB
              have HO496 := n0_
              have HB := n1_
              clear n0_ n1_
              clear hb ho42
              obtain ⟨Ao43, co43, eo43⟩ := Kd.R_slice HO496.out
              (first | subst eo43 | (injection eo43 with f1_ f2_ f3_; have f4_ := f1_.symm; have f5_ := f3_.symm; clear f1_ f2_ f3_; subst f4_; subst f5_))
              refine hK.out _ _ trivial (fun hHeld => ?_)
              clear hK K
              refine norm_ (a' := ?_) ?_ ?_
              rotate_left
              · show Act.put _ (some 31) _ = _
                simp only [Act.put, List.setIfInBounds_toArray, List.set_cons_zero, List.set_cons_succ, i64_w, i32_w]
                rfl
              refine one_ (i := 9) (N := some 32) #[true, true, true, true, true, true, true, true, true, true, false] rfl rfl (one_of HT_.out (by kernel_rfl)) (by decide) (fun K hK => ?_)
              refine goes_ Tryd.func49 (by kernel_rfl) rfl #[.slice Ao43 y494.length co43] (by rfl) rfl rfl (by (try simp only [List.map_toArray, List.map_cons, List.map_nil]); first | done | rfl | (simp only [List.length_drop, List.length_take]; rfl)) ?_
              with_reducible refine (pandectref01_Joined.calls k _ _ y494 t497 _ ?side1 ?side2 A26.out).mono ?_
              (case side1 => exact upC ((Kd.R_reads' HO496.out).2.2))
              (case side2 => exact (Kd.R_reads' HO496.out).2.1)
              rintro e w44 ⟨rfl, hb⟩
              refine ⟨_, rfl, ?_⟩
              have n0_ := Aside0.mk (Kd.R_below (by exact upR HO496.out) hb)
              have n1_ := Aside0.mk (below_step (by first | exact upB HB.out | exact HB.out) hb)
              clear HO496
              clear HB
              have HO496 := n0_
              have HB := n1_
              clear n0_ n1_
              (try clear hb)
              (try clear hb2)
              (try clear hk)
              (try clear hi)
              refine hK.out _ _ trivial (fun hHeld => ?_)
              clear hK K
              refine norm_ (a' := ?_) ?_ ?_
              rotate_left
              · show Act.put _ (some 32) _ = _
                simp only [Act.put, List.setIfInBounds_toArray, List.set_cons_zero, List.set_cons_succ, i64_w, i32_w]
                rfl
              refine pure_ (i := 10) (N := some 5) (v := ?_) (a' := ?_) #[true, true, true, true, true, true, true, true, true, true, true] rfl rfl (any_of HT_.out (by kernel_rfl)) (fun _ _ _ h => h) (Or.inl ⟨by rfl, ?_⟩) ?_ ?_
              rotate_left
              · intro w'
                go_simp
                with_reducible rfl
              rotate_left
              · simp only [Act.put, List.setIfInBounds_toArray, List.set_cons_zero, List.set_cons_succ, i64_w, i32_w]
                rfl
              refine done_ (done_of HT_.out (by kernel_rfl)) ?_
              try go_wp2
              have n0_ := Aside0.mk (Kd.R_drew HO496.out)
              have n1_ := Aside0.mk (below_drew1 HB.out)
              clear HO496
              clear HB
              have HO496 := n0_
              have HB := n1_
              clear n0_ n1_
              (try clear hcut37)
              (try clear hcut37)
              (try clear hcut37)
              (try clear hcut46)
              (try clear hcut37)
              (try clear hcut46)
              (try clear hcut37)
              (try clear hcut46)
              (try clear hcut37)
              (try clear hcut46)
              obtain ⟨i046, hi046, _, hsz46, _⟩ := info_parts info9
              obtain ⟨hcut46, hA46, hC46⟩ := print_take_of (P := Tryd.prog) Value.string (⟨#[]⟩ : ByteArray) 22 9 .i64 Tryd.underlying22 hi046 hsz46 A0 c0 l0 t489 (of_decide_eq_true (by first | (with_reducible assumption) | assumption)) (of_decide_eq_true (by first | (with_reducible assumption) | assumption)) HC0.out
              have HR498 := Aside0.mk (Kd.C_of_reads (h1 := fun _ => rfl) (hA46 _ (Kd.reads_of_C HR0.out)))
              have HC498 := Aside0.mk hC46
              clear hA46 hC46 hi046 hsz46
              (try clear hcut38)
              (try clear hcut38)
              (try clear hcut38)
              (try clear hcut47)
              (try clear hcut38)
              (try clear hcut47)
              (try clear hcut38)
              (try clear hcut47)
              (try clear hcut38)
              (try clear hcut47)
              obtain ⟨i047, hi047, _, hsz47, _⟩ := info_parts info9
              obtain ⟨A47, hcut47, hA47, hC47⟩ := print_drop_of (P := Tryd.prog) Value.string (⟨#[]⟩ : ByteArray) 22 9 .i64 Tryd.underlying22 hi047 hsz47 A0 c0 l0 t489 (of_decide_eq_true (by first | (with_reducible assumption) | assumption)) (of_decide_eq_true (by first | (with_reducible assumption) | assumption)) HC0.out
              have HR502 := Aside0.mk (Kd.C_of_reads (h1 := fun _ => rfl) (hA47 _ (Kd.reads_of_C HR0.out)))
              have HC502 := Aside0.mk hC47
              clear hA47 hC47 hi047 hsz47
              refine start_ (n := 13) (S := fun w' => True) (ds := []) #[false, false, false, false, false, false, false, false, false, false, false, false, false] (by kernel_rfl) rfl rfl trivial (fun hHeld => ?_); refine with_tabW pandectref02_Texts.tab8 pandectref02_Texts.bits8 (fun HT_ HW_ => ?_)
              generalize w44.drew = w45 at HO496 HB HR498 HR502 hHeld ⊢
              refine pure_ (i := 0) (N := some 33) (v := ?_) (a' := ?_) #[true, false, false, false, false, false, false, false, false, false, false, false, false] rfl rfl (any_of HT_.out (by kernel_rfl)) (fun _ _ _ h => h) (Or.inl ⟨by rfl, ?_⟩) ?_ ?_
              rotate_left
              · intro w'
                go_simp
                with_reducible rfl
              rotate_left
              · simp only [Act.put, List.setIfInBounds_toArray, List.set_cons_zero, List.set_cons_succ, i64_w, i32_w]
                rfl
              refine pure_ (i := 1) (N := some 34) (v := ?_) (a' := ?_) #[true, true, false, false, false, false, false, false, false, false, false, false, false] rfl rfl (any_of HT_.out (by kernel_rfl)) (fun _ _ _ h => h) (Or.inl ⟨by rfl, ?_⟩) ?_ ?_
              rotate_left
              · intro w'
                go_simp
                with_reducible rfl
              rotate_left
              · simp only [Act.put, List.setIfInBounds_toArray, List.set_cons_zero, List.set_cons_succ, i64_w, i32_w]
                rfl
              refine pure_ (i := 2) (N := some 35) (v := ?_) (a' := ?_) #[true, true, true, false, false, false, false, false, false, false, false, false, false] rfl rfl (any_of HT_.out (by kernel_rfl)) (fun _ _ _ h => h) (Or.inl ⟨by rfl, ?_⟩) ?_ ?_
              rotate_left
              · intro w'
                go_simp
                with_reducible rfl
              rotate_left
              · simp only [Act.put, List.setIfInBounds_toArray, List.set_cons_zero, List.set_cons_succ, i64_w, i32_w]
                rfl
              refine pure_ (i := 4) (N := some 37) (v := ?_) (a' := ?_) #[true, true, true, false, true, false, false, false, false, false, false, false, false] rfl rfl (any_of HT_.out (by kernel_rfl)) (fun _ _ _ h => h) (Or.inl ⟨by rfl, ?_⟩) ?_ ?_
              rotate_left
              · intro w'
                go_simp
                with_reducible rfl
              rotate_left
              · simp only [Act.put, List.setIfInBounds_toArray, List.set_cons_zero, List.set_cons_succ, i64_w, i32_w]
                rfl
              refine pure_ (i := 5) (N := some 38) (v := ?_) (a' := ?_) #[true, true, true, false, true, true, false, false, false, false, false, false, false] rfl rfl (any_of HT_.out (by kernel_rfl)) (fun _ _ _ h => h) (Or.inl ⟨by rfl, ?_⟩) ?_ ?_
              rotate_left
              · intro w'
                go_simp
                with_reducible rfl
              rotate_left
              · simp only [Act.put, List.setIfInBounds_toArray, List.set_cons_zero, List.set_cons_succ, i64_w, i32_w]
                rfl
              refine pure_ (i := 6) (N := some 39) (v := ?_) (a' := ?_) #[true, true, true, false, true, true, true, false, false, false, false, false, false] rfl rfl (any_of HT_.out (by kernel_rfl)) (fun _ _ _ h => h) (Or.inl ⟨by rfl, ?_⟩) ?_ ?_
              rotate_left
              · intro w'
                go_simp
                with_reducible rfl
              rotate_left
              · simp only [Act.put, List.setIfInBounds_toArray, List.set_cons_zero, List.set_cons_succ, i64_w, i32_w]
                rfl
              refine pure_ (i := 9) (N := some 42) (v := ?_) (a' := ?_) #[true, true, true, false, true, true, true, false, false, true, false, false, false] rfl rfl (any_of HT_.out (by kernel_rfl)) (fun _ _ _ h => h) (Or.inl ⟨by rfl, ?_⟩) ?_ ?_
              rotate_left
              · intro w'
                go_simp
                with_reducible rfl
              rotate_left
              · simp only [Act.put, List.setIfInBounds_toArray, List.set_cons_zero, List.set_cons_succ, i64_w, i32_w]
                rfl
              refine join_ (σ := Value × Value × Value × Value) 2 #[true, true, true, true, true, true, true, true, true, true, true, false, false] (fun s_ => [(36, s_.1), (40, s_.2.1), (41, s_.2.2.1), (43, s_.2.2.2)]) (fun s_ w' => (Kd.R Kd.string 9 w' w.heap.size (fun k_ => some k_ ≠ (s_.2.1 : Value).ownBlock ∧ some k_ ≠ (s_.2.2.1 : Value).ownBlock ∧ some k_ ≠ (s_.2.2.2 : Value).ownBlock) (.slice Ao43 y494.length co43) y494) ∧ (Kd.R Kd.string 9 w' w.heap.size (fun k_ => some k_ ≠ (.slice Ao43 y494.length co43 : Value).ownBlock ∧ some k_ ≠ (s_.2.2.1 : Value).ownBlock ∧ some k_ ≠ (s_.2.2.2 : Value).ownBlock) s_.2.1 t503) ∧ (Kd.R Kd.string 9 w' w.heap.size (fun k_ => some k_ ≠ (.slice Ao43 y494.length co43 : Value).ownBlock ∧ some k_ ≠ (s_.2.1 : Value).ownBlock ∧ some k_ ≠ (s_.2.2.2 : Value).ownBlock) s_.2.2.1 y506) ∧ (Kd.R Kd.string 9 w' w.heap.size (fun k_ => some k_ ≠ (.slice Ao43 y494.length co43 : Value).ownBlock ∧ some k_ ≠ (s_.2.1 : Value).ownBlock ∧ some k_ ≠ (s_.2.2.1 : Value).ownBlock) s_.2.2.2 y509) ∧ (Below w.heap.size w w')) ?_ ?_
              rotate_left
              · intro hCont
                refine two_ (i := 3) (j := 10) (Ni := some 36) (Nj := some 43) #[true, true, true, true, true, true, true, false, false, true, false, false, false] #[true, true, true, false, true, true, true, false, false, true, true, false, false] rfl rfl rfl rfl (two_of HT_.out (by kernel_rfl)) (by decide) (by decide) (fun K hK => ?_) (fun K hK => ?_)
                · skip
                  refine goes_ Tryd.func23 (by kernel_rfl) rfl #[.slice A0 (l0.take (t489 : Int).toNat).length c0] (by rfl) rfl rfl (by (try simp only [List.map_toArray, List.map_cons, List.map_nil]); first | done | (rw [show (l0.take (t489 : Int).toNat).length = t489.toNat from (by rw [List.length_take]; have h_ : (t489 : Int) ≤ (l0.length : Int) := of_decide_eq_true (by first | (with_reducible assumption) | assumption); omega)] <;> rfl) | rfl | (simp only [List.length_drop, List.length_take]; rfl)) ?_
                  with_reducible refine (ih k (by omega) _ _ (l0.take (t489 : Int).toNat) t499 _ ?side1 ?side2 A29.out).mono ?_
                  (case side1 => exact upC ((Kd.C_below HR498.out HB.out)))
                  (case side2 => exact HC498.out)
                  rintro e w48 ⟨v500, rfl, ho0, hb⟩
                  refine ⟨_, rfl, ?_⟩
                  have n0_ := Aside0.mk (Kd.R_elder' (by exact upR HO496.out) (Kd.R_base ho0) hb)
                  have n1_ := Aside0.mk (Kd.R_lower (Kd.R_new' ho0 (Kd.R_lt (by exact upR HO496.out))) (below_size (by first | exact upB HB.out | exact HB.out)))
                  have n2_ := Aside0.mk (below_step (by first | exact upB HB.out | exact HB.out) hb)
                  clear HO496
                  clear HB
                  have HO496 := n0_
                  have HO501 := n1_
                  have HB := n2_
                  clear n0_ n1_ n2_
                  (try clear hb)
                  (try clear hb2)
                  (try clear hk)
                  (try clear hi)
                  (try clear ho0)
                  refine hK.out _ _ trivial (fun hHeld => ?_)
                  clear hK K
                  refine norm_ (a' := ?_) ?_ ?_
                  rotate_left
                  · show Act.put _ (some 36) _ = _
                    simp only [Act.put, List.setIfInBounds_toArray, List.set_cons_zero, List.set_cons_succ, i64_w, i32_w]
                    rfl
                  refine two_ (i := 7) (j := 10) (Ni := some 40) (Nj := some 43) #[true, true, true, true, true, true, true, true, false, true, false, false, false] #[true, true, true, true, true, true, true, false, false, true, true, false, false] rfl rfl rfl rfl (two_of HT_.out (by kernel_rfl)) (by decide) (by decide) (fun K hK => ?_) (fun K hK => ?_)
                  · skip
                    refine goes_ Tryd.func23 (by kernel_rfl) rfl #[.slice A47 (l0.drop (t489 : Int).toNat).length (c0 - t489.toNat)] (by rfl) rfl rfl (by (try simp only [List.map_toArray, List.map_cons, List.map_nil]); first | done | (rw [show (l0.drop (t489 : Int).toNat).length = (l0.length - t489.toNat) from List.length_drop] <;> rfl) | rfl | (simp only [List.length_drop, List.length_take]; rfl)) ?_
                    with_reducible refine (ih k (by omega) _ _ (l0.drop (t489 : Int).toNat) t503 _ ?side1 ?side2 A32.out).mono ?_
                    (case side1 => exact upC ((Kd.C_below HR502.out HB.out)))
                    (case side2 => exact HC502.out)
                    rintro e w49 ⟨v504, rfl, ho0, hb⟩
                    refine ⟨_, rfl, ?_⟩
                    have n0_ := Aside0.mk (Kd.R_elder' (by exact upR HO496.out) (Kd.R_base ho0) hb)
                    have n1_ := Aside0.mk (Kd.R_elder' (by exact upR HO501.out) (Kd.R_base ho0) hb)
                    have n2_ := Aside0.mk (Kd.R_lower (Kd.R_new' (Kd.R_new' ho0 (Kd.R_lt (by exact upR HO496.out))) (Kd.R_lt (by exact upR HO501.out))) (below_size (by first | exact upB HB.out | exact HB.out)))
                    have n3_ := Aside0.mk (below_step (by first | exact upB HB.out | exact HB.out) hb)
                    clear HO496
                    clear HO501
                    clear HB
                    have HO496 := n0_
                    have HO501 := n1_
                    have HO505 := n2_
                    have HB := n3_
                    clear n0_ n1_ n2_ n3_
                    (try clear hb)
                    (try clear hb2)
                    (try clear hk)
                    (try clear hi)
                    (try clear ho0)
                    obtain ⟨Ao51, co51, eo51⟩ := Kd.R_slice HO505.out
                    (first | subst eo51 | (injection eo51 with f1_ f2_ f3_; have f4_ := f1_.symm; have f5_ := f3_.symm; clear f1_ f2_ f3_; subst f4_; subst f5_))
                    refine hK.out _ _ trivial (fun hHeld => ?_)
                    clear hK K
                    refine norm_ (a' := ?_) ?_ ?_
                    rotate_left
                    · show Act.put _ (some 40) _ = _
                      simp only [Act.put, List.setIfInBounds_toArray, List.set_cons_zero, List.set_cons_succ, i64_w, i32_w]
                      rfl
                    refine two_ (i := 8) (j := 10) (Ni := some 41) (Nj := some 43) #[true, true, true, true, true, true, true, true, true, true, false, false, false] #[true, true, true, true, true, true, true, true, false, true, true, false, false] rfl rfl rfl rfl (two_of HT_.out (by kernel_rfl)) (by decide) (by decide) (fun K hK => ?_) (fun K hK => ?_)
                    · skip
                      refine Kd.R_append_rows_step Kd.string (w0 := w) w.heap.size (by rfl) (.tmp 36) (.tmp 40) 22 9 (.string ⟨#[]⟩) 16 rfl Tryd.underlying22 info9 rfl (by decide) (by omega) v500 t499 t503 _ _ _ (fun k_ => some k_ ≠ (.slice Ao43 y494.length co43 : Value).ownBlock ∧ some k_ ≠ (.slice Ao51 t503.length co51 : Value).ownBlock) (fun _ => False) rfl rfl ?aO ?aR (fun _ _ h => h) (fun _ h => h.elim) ?aF ?aB ?aS ?aL ?_
                      (case aR => exact upC ((Kd.R_reads' HO505.out).2.2))
                      (case aB => exact (by first | exact upB HB.out | exact HB.out))
                      (case aF => exact (fun k_ hk => ⟨Kd.fresh' (Kd.R_lt (by exact upR HO496.out)) k_ hk, Kd.fresh' (Kd.R_lt (by exact upR HO505.out)) k_ hk⟩))
                      (case aO => exact (by (with_reducible repeat (first | apply Kd.R_alloc | apply Kd.R_drewN | apply Kd.R_drew)); exact Kd.R_mono HO501.out (fun _ hk => ⟨hk.1.2, hk.2⟩)))
                      (case aS => exact (below_size (by first | exact upB HB.out | exact HB.out)))
                      (case aL => have := LMc33.out; omega)
                      intro v507 w50 ho hb hg hat
                      rw [← Ny506.out] at ho
                      have n0_ := Aside0.mk (Kd.R_after (ok := (fun k_ => some k_ ≠ (.slice Ao51 t503.length co51 : Value).ownBlock)) (by (with_reducible repeat (first | apply Kd.R_alloc | apply Kd.R_drewN | apply Kd.R_drew)); exact Kd.R_mono HO496.out (fun _ hk => ⟨hk.2, hk.1.2⟩)) hg hat)
                      have n1_ := Aside0.mk (Kd.R_after (ok := (fun k_ => some k_ ≠ (.slice Ao43 y494.length co43 : Value).ownBlock)) (by (with_reducible repeat (first | apply Kd.R_alloc | apply Kd.R_drewN | apply Kd.R_drew)); exact Kd.R_mono HO505.out (fun _ hk => ⟨hk.1.2, hk.2⟩)) hg hat)
                      have n2_ := Aside0.mk (hb)
                      have n3_ := Aside0.mk (ho)
                      clear HO496
                      clear HO505
                      clear HB
                      clear HO501
                      have HO496 := n0_
                      have HO505 := n1_
                      have HB := n2_
                      have HO508 := n3_
                      clear n0_ n1_ n2_ n3_
                      clear ho hb hg hat
                      refine hK.out _ _ trivial (fun hHeld => ?_)
                      clear hK K
                      refine norm_ (a' := ?_) ?_ ?_
                      rotate_left
                      · show Act.put _ (some 41) _ = _
                        simp only [Act.put, List.setIfInBounds_toArray, List.set_cons_zero, List.set_cons_succ, i64_w, i32_w]
                        rfl
                      refine one_ (i := 10) (N := some 43) #[true, true, true, true, true, true, true, true, true, true, true, false, false] rfl rfl (one_of HT_.out (by kernel_rfl)) (by decide) (fun K hK => ?_)
                      refine Kd.R_lit_step Kd.string _ 9 ?hg (N := 43) ?hd (xs := ([t497] : List ByteArray)) (inner := [.string t497]) (ok := fun _ => True) (okp := fun _ => True) ?hr ?hp (fun _ hk => hk) trivial (Below.refl _ _) (Nat.le_refl _) (by simp) ?_; (case hd => rfl); (case hg => rfl); (case hr => first | (go_simp; done) | (go_simp; rfl)); (case hp => exact (Reps.one (show Kd.M Kd.string _ _ _ t497 [.string t497] from rfl) (Reps.none _ _)))
                      intro v510 w52 ho53 hb hg_ hnew_
                      clear hg_ hnew_
                      (first | rw [← Ny509.out] at ho53 | (simp only [Int.reduceToNat] at ho53; rw [← Ny509.out] at ho53))
                      have n0_ := Aside0.mk (Kd.R_elder' (by exact upR HO496.out) (Kd.R_base ho53) hb)
                      have n1_ := Aside0.mk (Kd.R_elder' (by exact upR HO505.out) (Kd.R_base ho53) hb)
                      have n2_ := Aside0.mk (Kd.R_elder' (by exact upR HO508.out) (Kd.R_base ho53) hb)
                      have n3_ := Aside0.mk (Kd.R_lower (Kd.R_new' (Kd.R_new' (Kd.R_new' ho53 (Kd.R_lt (by exact upR HO496.out))) (Kd.R_lt (by exact upR HO505.out))) (Kd.R_lt (by exact upR HO508.out))) (below_size (by first | exact upB HB.out | exact HB.out)))
                      have n4_ := Aside0.mk (below_step (by first | exact upB HB.out | exact HB.out) hb)
                      clear HO496
                      clear HO505
                      clear HO508
                      clear HB
                      have HO496 := n0_
                      have HO505 := n1_
                      have HO508 := n2_
                      have HO511 := n3_
                      have HB := n4_
                      clear n0_ n1_ n2_ n3_ n4_
                      clear hb ho53
                      refine hK.out _ _ trivial (fun hHeld => ?_)
                      clear hK K
                      refine norm_ (a' := ?_) ?_ ?_
                      rotate_left
                      · show Act.put _ (some 43) _ = _
                        simp only [Act.put, List.setIfInBounds_toArray, List.set_cons_zero, List.set_cons_succ, i64_w, i32_w]
                        rfl
                      exact norm_ (by simp only [putAll, Act.put, List.setIfInBounds_toArray, List.set_cons_zero, List.set_cons_succ]) (hCont (v500, .slice Ao51 t503.length co51, v507, v510) _ ⟨(by (with_reducible repeat (first | apply Kd.R_alloc | apply Kd.R_drewN | apply Kd.R_drew)); exact Kd.R_mono HO496.out (fun _ hk => ⟨hk.1.1, ⟨hk.1.2, hk.2⟩⟩)), (by (with_reducible repeat (first | apply Kd.R_alloc | apply Kd.R_drewN | apply Kd.R_drew)); exact Kd.R_mono HO505.out (fun _ hk => ⟨hk.1.1, ⟨hk.1.2, hk.2⟩⟩)), (by (with_reducible repeat (first | apply Kd.R_alloc | apply Kd.R_drewN | apply Kd.R_drew)); exact Kd.R_mono HO508.out (fun _ hk => ⟨hk.1.1, ⟨hk.1.2, hk.2⟩⟩)), (by (with_reducible repeat (first | apply Kd.R_alloc | apply Kd.R_drewN | apply Kd.R_drew)); exact Kd.R_mono HO511.out (fun _ hk => ⟨hk.1.1.2, ⟨hk.1.2, hk.2⟩⟩)), (by first | exact upB HB.out | exact HB.out)⟩)
                    · skip
                      refine Kd.R_lit_step Kd.string _ 9 ?hg (N := 43) ?hd (xs := ([t497] : List ByteArray)) (inner := [.string t497]) (ok := fun _ => True) (okp := fun _ => True) ?hr ?hp (fun _ hk => hk) trivial (Below.refl _ _) (Nat.le_refl _) (by simp) ?_; (case hd => rfl); (case hg => rfl); (case hr => first | (go_simp; done) | (go_simp; rfl)); (case hp => exact (Reps.one (show Kd.M Kd.string _ _ _ t497 [.string t497] from rfl) (Reps.none _ _)))
                      intro v510 w50 ho51 hb hg_ hnew_
                      clear hg_ hnew_
                      (first | rw [← Ny509.out] at ho51 | (simp only [Int.reduceToNat] at ho51; rw [← Ny509.out] at ho51))
                      have n0_ := Aside0.mk (Kd.R_elder' (by exact upR HO496.out) (Kd.R_base ho51) hb)
                      have n1_ := Aside0.mk (Kd.R_elder' (by exact upR HO501.out) (Kd.R_base ho51) hb)
                      have n2_ := Aside0.mk (Kd.R_elder' (by exact upR HO505.out) (Kd.R_base ho51) hb)
                      have n3_ := Aside0.mk (Kd.R_lower (Kd.R_new' (Kd.R_new' (Kd.R_new' ho51 (Kd.R_lt (by exact upR HO496.out))) (Kd.R_lt (by exact upR HO501.out))) (Kd.R_lt (by exact upR HO505.out))) (below_size (by first | exact upB HB.out | exact HB.out)))
                      have n4_ := Aside0.mk (below_step (by first | exact upB HB.out | exact HB.out) hb)
                      clear HO496
                      clear HO501
                      clear HO505
                      clear HB
                      have HO496 := n0_
                      have HO501 := n1_
                      have HO505 := n2_
                      have HO511 := n3_
                      have HB := n4_
                      clear n0_ n1_ n2_ n3_ n4_
                      clear hb ho51
                      obtain ⟨Ao53, co53, eo53⟩ := Kd.R_slice HO505.out
                      (first | subst eo53 | (injection eo53 with f1_ f2_ f3_; have f4_ := f1_.symm; have f5_ := f3_.symm; clear f1_ f2_ f3_; subst f4_; subst f5_))
                      refine hK.out _ _ trivial (fun hHeld => ?_)
                      clear hK K
                      refine norm_ (a' := ?_) ?_ ?_
                      rotate_left
                      · show Act.put _ (some 43) _ = _
                        simp only [Act.put, List.setIfInBounds_toArray, List.set_cons_zero, List.set_cons_succ, i64_w, i32_w]
                        rfl
                      refine one_ (i := 8) (N := some 41) #[true, true, true, true, true, true, true, true, true, true, true, false, false] rfl rfl (one_of HT_.out (by kernel_rfl)) (by decide) (fun K hK => ?_)
                      refine Kd.R_append_rows_step Kd.string (w0 := w) w.heap.size (by rfl) (.tmp 36) (.tmp 40) 22 9 (.string ⟨#[]⟩) 16 rfl Tryd.underlying22 info9 rfl (by decide) (by omega) v500 t499 t503 _ _ _ (fun k_ => some k_ ≠ (.slice Ao43 y494.length co43 : Value).ownBlock ∧ some k_ ≠ (.slice Ao53 t503.length co53 : Value).ownBlock ∧ some k_ ≠ (v510 : Value).ownBlock) (fun _ => False) rfl rfl ?aO ?aR (fun _ _ h => h) (fun _ h => h.elim) ?aF ?aB ?aS ?aL ?_
                      (case aR => exact upC ((Kd.R_reads' HO505.out).2.2))
                      (case aB => exact (by first | exact upB HB.out | exact HB.out))
                      (case aF => exact (fun k_ hk => ⟨Kd.fresh' (Kd.R_lt (by exact upR HO496.out)) k_ hk, Kd.fresh' (Kd.R_lt (by exact upR HO505.out)) k_ hk, Kd.fresh' (Kd.R_lt (by exact upR HO511.out)) k_ hk⟩))
                      (case aO => exact (by (with_reducible repeat (first | apply Kd.R_alloc | apply Kd.R_drewN | apply Kd.R_drew)); exact Kd.R_mono HO501.out (fun _ hk => ⟨hk.1.1.2, ⟨hk.1.2, hk.2⟩⟩)))
                      (case aS => exact (below_size (by first | exact upB HB.out | exact HB.out)))
                      (case aL => have := LMc33.out; omega)
                      intro v507 w52 ho hb hg hat
                      rw [← Ny506.out] at ho
                      have n0_ := Aside0.mk (Kd.R_after (ok := (fun k_ => some k_ ≠ (.slice Ao53 t503.length co53 : Value).ownBlock ∧ some k_ ≠ (v510 : Value).ownBlock)) (by (with_reducible repeat (first | apply Kd.R_alloc | apply Kd.R_drewN | apply Kd.R_drew)); exact Kd.R_mono HO496.out (fun _ hk => ⟨⟨hk.1.2, hk.2⟩, hk.1.1.2⟩)) hg hat)
                      have n1_ := Aside0.mk (Kd.R_after (ok := (fun k_ => some k_ ≠ (.slice Ao43 y494.length co43 : Value).ownBlock ∧ some k_ ≠ (v510 : Value).ownBlock)) (by (with_reducible repeat (first | apply Kd.R_alloc | apply Kd.R_drewN | apply Kd.R_drew)); exact Kd.R_mono HO505.out (fun _ hk => ⟨⟨hk.1.1.2, hk.2⟩, hk.1.2⟩)) hg hat)
                      have n2_ := Aside0.mk (Kd.R_after (ok := (fun k_ => some k_ ≠ (.slice Ao43 y494.length co43 : Value).ownBlock ∧ some k_ ≠ (.slice Ao53 t503.length co53 : Value).ownBlock)) (by (with_reducible repeat (first | apply Kd.R_alloc | apply Kd.R_drewN | apply Kd.R_drew)); exact Kd.R_mono HO511.out (fun _ hk => ⟨⟨hk.1.1.2, hk.2⟩, hk.1.2⟩)) hg hat)
                      have n3_ := Aside0.mk (hb)
                      have n4_ := Aside0.mk (ho)
                      clear HO496
                      clear HO505
                      clear HO511
                      clear HB
                      clear HO501
                      have HO496 := n0_
                      have HO505 := n1_
                      have HO511 := n2_
                      have HB := n3_
                      have HO508 := n4_
                      clear n0_ n1_ n2_ n3_ n4_
                      clear ho hb hg hat
                      refine hK.out _ _ trivial (fun hHeld => ?_)
                      clear hK K
                      refine norm_ (a' := ?_) ?_ ?_
                      rotate_left
                      · show Act.put _ (some 41) _ = _
                        simp only [Act.put, List.setIfInBounds_toArray, List.set_cons_zero, List.set_cons_succ, i64_w, i32_w]
                        rfl
                      exact norm_ (by simp only [putAll, Act.put, List.setIfInBounds_toArray, List.set_cons_zero, List.set_cons_succ]) (hCont (v500, .slice Ao53 t503.length co53, v507, v510) _ ⟨(by (with_reducible repeat (first | apply Kd.R_alloc | apply Kd.R_drewN | apply Kd.R_drew)); exact Kd.R_mono HO496.out (fun _ hk => ⟨hk.1.1, ⟨hk.2, hk.1.2⟩⟩)), (by (with_reducible repeat (first | apply Kd.R_alloc | apply Kd.R_drewN | apply Kd.R_drew)); exact Kd.R_mono HO505.out (fun _ hk => ⟨hk.1.1, ⟨hk.2, hk.1.2⟩⟩)), (by exact upR HO508.out), (by (with_reducible repeat (first | apply Kd.R_alloc | apply Kd.R_drewN | apply Kd.R_drew)); exact Kd.R_mono HO511.out (fun _ hk => ⟨hk.1.1, ⟨hk.1.2, hk.2⟩⟩)), (by first | exact upB HB.out | exact HB.out)⟩)
                  · skip
                    refine Kd.R_lit_step Kd.string _ 9 ?hg (N := 43) ?hd (xs := ([t497] : List ByteArray)) (inner := [.string t497]) (ok := fun _ => True) (okp := fun _ => True) ?hr ?hp (fun _ hk => hk) trivial (Below.refl _ _) (Nat.le_refl _) (by simp) ?_; (case hd => rfl); (case hg => rfl); (case hr => first | (go_simp; done) | (go_simp; rfl)); (case hp => exact (Reps.one (show Kd.M Kd.string _ _ _ t497 [.string t497] from rfl) (Reps.none _ _)))
                    intro v510 w49 ho50 hb hg_ hnew_
                    clear hg_ hnew_
                    (first | rw [← Ny509.out] at ho50 | (simp only [Int.reduceToNat] at ho50; rw [← Ny509.out] at ho50))
                    have n0_ := Aside0.mk (Kd.R_elder' (by exact upR HO496.out) (Kd.R_base ho50) hb)
                    have n1_ := Aside0.mk (Kd.R_elder' (by exact upR HO501.out) (Kd.R_base ho50) hb)
                    have n2_ := Aside0.mk (Kd.R_lower (Kd.R_new' (Kd.R_new' ho50 (Kd.R_lt (by exact upR HO496.out))) (Kd.R_lt (by exact upR HO501.out))) (below_size (by first | exact upB HB.out | exact HB.out)))
                    have n3_ := Aside0.mk (below_step (by first | exact upB HB.out | exact HB.out) hb)
                    clear HO496
                    clear HO501
                    clear HB
                    have HO496 := n0_
                    have HO501 := n1_
                    have HO511 := n2_
                    have HB := n3_
                    clear n0_ n1_ n2_ n3_
                    clear hb ho50
                    refine hK.out _ _ trivial (fun hHeld => ?_)
                    clear hK K
                    refine norm_ (a' := ?_) ?_ ?_
                    rotate_left
                    · show Act.put _ (some 43) _ = _
                      simp only [Act.put, List.setIfInBounds_toArray, List.set_cons_zero, List.set_cons_succ, i64_w, i32_w]
                      rfl
                    refine one_ (i := 7) (N := some 40) #[true, true, true, true, true, true, true, true, false, true, true, false, false] rfl rfl (one_of HT_.out (by kernel_rfl)) (by decide) (fun K hK => ?_)
                    refine goes_ Tryd.func23 (by kernel_rfl) rfl #[.slice A47 (l0.drop (t489 : Int).toNat).length (c0 - t489.toNat)] (by rfl) rfl rfl (by (try simp only [List.map_toArray, List.map_cons, List.map_nil]); first | done | (rw [show (l0.drop (t489 : Int).toNat).length = (l0.length - t489.toNat) from List.length_drop] <;> rfl) | rfl | (simp only [List.length_drop, List.length_take]; rfl)) ?_
                    with_reducible refine (ih k (by omega) _ _ (l0.drop (t489 : Int).toNat) t503 _ ?side1 ?side2 A32.out).mono ?_
                    (case side1 => exact upC ((Kd.C_below HR502.out HB.out)))
                    (case side2 => exact HC502.out)
                    rintro e w51 ⟨v504, rfl, ho0, hb⟩
                    refine ⟨_, rfl, ?_⟩
                    have n0_ := Aside0.mk (Kd.R_elder' (by exact upR HO496.out) (Kd.R_base ho0) hb)
                    have n1_ := Aside0.mk (Kd.R_elder' (by exact upR HO501.out) (Kd.R_base ho0) hb)
                    have n2_ := Aside0.mk (Kd.R_elder' (by exact upR HO511.out) (Kd.R_base ho0) hb)
                    have n3_ := Aside0.mk (Kd.R_lower (Kd.R_new' (Kd.R_new' (Kd.R_new' ho0 (Kd.R_lt (by exact upR HO496.out))) (Kd.R_lt (by exact upR HO501.out))) (Kd.R_lt (by exact upR HO511.out))) (below_size (by first | exact upB HB.out | exact HB.out)))
                    have n4_ := Aside0.mk (below_step (by first | exact upB HB.out | exact HB.out) hb)
                    clear HO496
                    clear HO501
                    clear HO511
                    clear HB
                    have HO496 := n0_
                    have HO501 := n1_
                    have HO511 := n2_
                    have HO505 := n3_
                    have HB := n4_
                    clear n0_ n1_ n2_ n3_ n4_
                    (try clear hb)
                    (try clear hb2)
                    (try clear hk)
                    (try clear hi)
                    (try clear ho0)
                    obtain ⟨Ao53, co53, eo53⟩ := Kd.R_slice HO505.out
                    (first | subst eo53 | (injection eo53 with f1_ f2_ f3_; have f4_ := f1_.symm; have f5_ := f3_.symm; clear f1_ f2_ f3_; subst f4_; subst f5_))
                    refine hK.out _ _ trivial (fun hHeld => ?_)
                    clear hK K
                    refine norm_ (a' := ?_) ?_ ?_
                    rotate_left
                    · show Act.put _ (some 40) _ = _
                      simp only [Act.put, List.setIfInBounds_toArray, List.set_cons_zero, List.set_cons_succ, i64_w, i32_w]
                      rfl
                    refine one_ (i := 8) (N := some 41) #[true, true, true, true, true, true, true, true, true, true, true, false, false] rfl rfl (one_of HT_.out (by kernel_rfl)) (by decide) (fun K hK => ?_)
                    refine Kd.R_append_rows_step Kd.string (w0 := w) w.heap.size (by rfl) (.tmp 36) (.tmp 40) 22 9 (.string ⟨#[]⟩) 16 rfl Tryd.underlying22 info9 rfl (by decide) (by omega) v500 t499 t503 _ _ _ (fun k_ => some k_ ≠ (.slice Ao43 y494.length co43 : Value).ownBlock ∧ some k_ ≠ (v510 : Value).ownBlock ∧ some k_ ≠ (.slice Ao53 t503.length co53 : Value).ownBlock) (fun _ => False) rfl rfl ?aO ?aR (fun _ _ h => h) (fun _ h => h.elim) ?aF ?aB ?aS ?aL ?_
                    (case aR => exact upC ((Kd.R_reads' HO505.out).2.2))
                    (case aB => exact (by first | exact upB HB.out | exact HB.out))
                    (case aF => exact (fun k_ hk => ⟨Kd.fresh' (Kd.R_lt (by exact upR HO496.out)) k_ hk, Kd.fresh' (Kd.R_lt (by exact upR HO511.out)) k_ hk, Kd.fresh' (Kd.R_lt (by exact upR HO505.out)) k_ hk⟩))
                    (case aO => exact (by (with_reducible repeat (first | apply Kd.R_alloc | apply Kd.R_drewN | apply Kd.R_drew)); exact Kd.R_mono HO501.out (fun _ hk => ⟨hk.1.1.2, ⟨hk.1.2, hk.2⟩⟩)))
                    (case aS => exact (below_size (by first | exact upB HB.out | exact HB.out)))
                    (case aL => have := LMc33.out; omega)
                    intro v507 w52 ho hb hg hat
                    rw [← Ny506.out] at ho
                    have n0_ := Aside0.mk (Kd.R_after (ok := (fun k_ => some k_ ≠ (v510 : Value).ownBlock ∧ some k_ ≠ (.slice Ao53 t503.length co53 : Value).ownBlock)) (by (with_reducible repeat (first | apply Kd.R_alloc | apply Kd.R_drewN | apply Kd.R_drew)); exact Kd.R_mono HO496.out (fun _ hk => ⟨⟨hk.1.2, hk.2⟩, hk.1.1.2⟩)) hg hat)
                    have n1_ := Aside0.mk (Kd.R_after (ok := (fun k_ => some k_ ≠ (.slice Ao43 y494.length co43 : Value).ownBlock ∧ some k_ ≠ (.slice Ao53 t503.length co53 : Value).ownBlock)) (by (with_reducible repeat (first | apply Kd.R_alloc | apply Kd.R_drewN | apply Kd.R_drew)); exact Kd.R_mono HO511.out (fun _ hk => ⟨⟨hk.1.1.2, hk.2⟩, hk.1.2⟩)) hg hat)
                    have n2_ := Aside0.mk (Kd.R_after (ok := (fun k_ => some k_ ≠ (.slice Ao43 y494.length co43 : Value).ownBlock ∧ some k_ ≠ (v510 : Value).ownBlock)) (by (with_reducible repeat (first | apply Kd.R_alloc | apply Kd.R_drewN | apply Kd.R_drew)); exact Kd.R_mono HO505.out (fun _ hk => ⟨⟨hk.1.1.2, hk.2⟩, hk.1.2⟩)) hg hat)
                    have n3_ := Aside0.mk (hb)
                    have n4_ := Aside0.mk (ho)
                    clear HO496
                    clear HO511
                    clear HO505
                    clear HB
                    clear HO501
                    have HO496 := n0_
                    have HO511 := n1_
                    have HO505 := n2_
                    have HB := n3_
                    have HO508 := n4_
                    clear n0_ n1_ n2_ n3_ n4_
                    clear ho hb hg hat
                    refine hK.out _ _ trivial (fun hHeld => ?_)
                    clear hK K
                    refine norm_ (a' := ?_) ?_ ?_
                    rotate_left
                    · show Act.put _ (some 41) _ = _
                      simp only [Act.put, List.setIfInBounds_toArray, List.set_cons_zero, List.set_cons_succ, i64_w, i32_w]
                      rfl
                    exact norm_ (by simp only [putAll, Act.put, List.setIfInBounds_toArray, List.set_cons_zero, List.set_cons_succ]) (hCont (v500, .slice Ao53 t503.length co53, v507, v510) _ ⟨(by (with_reducible repeat (first | apply Kd.R_alloc | apply Kd.R_drewN | apply Kd.R_drew)); exact Kd.R_mono HO496.out (fun _ hk => ⟨hk.1.2, ⟨hk.2, hk.1.1⟩⟩)), (by (with_reducible repeat (first | apply Kd.R_alloc | apply Kd.R_drewN | apply Kd.R_drew)); exact Kd.R_mono HO505.out (fun _ hk => ⟨hk.1.1, ⟨hk.2, hk.1.2⟩⟩)), (by (with_reducible repeat (first | apply Kd.R_alloc | apply Kd.R_drewN | apply Kd.R_drew)); exact Kd.R_mono HO508.out (fun _ hk => ⟨hk.1, ⟨hk.2.2, hk.2.1⟩⟩)), (by (with_reducible repeat (first | apply Kd.R_alloc | apply Kd.R_drewN | apply Kd.R_drew)); exact Kd.R_mono HO511.out (fun _ hk => ⟨hk.1.1, ⟨hk.1.2, hk.2⟩⟩)), (by first | exact upB HB.out | exact HB.out)⟩)
                · skip
                  refine Kd.R_lit_step Kd.string _ 9 ?hg (N := 43) ?hd (xs := ([t497] : List ByteArray)) (inner := [.string t497]) (ok := fun _ => True) (okp := fun _ => True) ?hr ?hp (fun _ hk => hk) trivial (Below.refl _ _) (Nat.le_refl _) (by simp) ?_; (case hd => rfl); (case hg => rfl); (case hr => first | (go_simp; done) | (go_simp; rfl)); (case hp => exact (Reps.one (show Kd.M Kd.string _ _ _ t497 [.string t497] from rfl) (Reps.none _ _)))
                  intro v510 w48 ho49 hb hg_ hnew_
                  clear hg_ hnew_
                  (first | rw [← Ny509.out] at ho49 | (simp only [Int.reduceToNat] at ho49; rw [← Ny509.out] at ho49))
                  have n0_ := Aside0.mk (Kd.R_elder' (by exact upR HO496.out) (Kd.R_base ho49) hb)
                  have n1_ := Aside0.mk (Kd.R_lower (Kd.R_new' ho49 (Kd.R_lt (by exact upR HO496.out))) (below_size (by first | exact upB HB.out | exact HB.out)))
                  have n2_ := Aside0.mk (below_step (by first | exact upB HB.out | exact HB.out) hb)
                  clear HO496
                  clear HB
                  have HO496 := n0_
                  have HO511 := n1_
                  have HB := n2_
                  clear n0_ n1_ n2_
                  clear hb ho49
                  refine hK.out _ _ trivial (fun hHeld => ?_)
                  clear hK K
                  refine norm_ (a' := ?_) ?_ ?_
                  rotate_left
                  · show Act.put _ (some 43) _ = _
                    simp only [Act.put, List.setIfInBounds_toArray, List.set_cons_zero, List.set_cons_succ, i64_w, i32_w]
                    rfl
                  refine one_ (i := 3) (N := some 36) #[true, true, true, true, true, true, true, false, false, true, true, false, false] rfl rfl (one_of HT_.out (by kernel_rfl)) (by decide) (fun K hK => ?_)
                  refine goes_ Tryd.func23 (by kernel_rfl) rfl #[.slice A0 (l0.take (t489 : Int).toNat).length c0] (by rfl) rfl rfl (by (try simp only [List.map_toArray, List.map_cons, List.map_nil]); first | done | (rw [show (l0.take (t489 : Int).toNat).length = t489.toNat from (by rw [List.length_take]; have h_ : (t489 : Int) ≤ (l0.length : Int) := of_decide_eq_true (by first | (with_reducible assumption) | assumption); omega)] <;> rfl) | rfl | (simp only [List.length_drop, List.length_take]; rfl)) ?_
                  with_reducible refine (ih k (by omega) _ _ (l0.take (t489 : Int).toNat) t499 _ ?side1 ?side2 A29.out).mono ?_
                  (case side1 => exact upC ((Kd.C_below HR498.out HB.out)))
                  (case side2 => exact HC498.out)
                  rintro e w50 ⟨v500, rfl, ho0, hb⟩
                  refine ⟨_, rfl, ?_⟩
                  have n0_ := Aside0.mk (Kd.R_elder' (by exact upR HO496.out) (Kd.R_base ho0) hb)
                  have n1_ := Aside0.mk (Kd.R_elder' (by exact upR HO511.out) (Kd.R_base ho0) hb)
                  have n2_ := Aside0.mk (Kd.R_lower (Kd.R_new' (Kd.R_new' ho0 (Kd.R_lt (by exact upR HO496.out))) (Kd.R_lt (by exact upR HO511.out))) (below_size (by first | exact upB HB.out | exact HB.out)))
                  have n3_ := Aside0.mk (below_step (by first | exact upB HB.out | exact HB.out) hb)
                  clear HO496
                  clear HO511
                  clear HB
                  have HO496 := n0_
                  have HO511 := n1_
                  have HO501 := n2_
                  have HB := n3_
                  clear n0_ n1_ n2_ n3_
                  (try clear hb)
                  (try clear hb2)
                  (try clear hk)
                  (try clear hi)
                  (try clear ho0)
                  refine hK.out _ _ trivial (fun hHeld => ?_)
                  clear hK K
                  refine norm_ (a' := ?_) ?_ ?_
                  rotate_left
                  · show Act.put _ (some 36) _ = _
                    simp only [Act.put, List.setIfInBounds_toArray, List.set_cons_zero, List.set_cons_succ, i64_w, i32_w]
                    rfl
                  refine one_ (i := 7) (N := some 40) #[true, true, true, true, true, true, true, true, false, true, true, false, false] rfl rfl (one_of HT_.out (by kernel_rfl)) (by decide) (fun K hK => ?_)
                  refine goes_ Tryd.func23 (by kernel_rfl) rfl #[.slice A47 (l0.drop (t489 : Int).toNat).length (c0 - t489.toNat)] (by rfl) rfl rfl (by (try simp only [List.map_toArray, List.map_cons, List.map_nil]); first | done | (rw [show (l0.drop (t489 : Int).toNat).length = (l0.length - t489.toNat) from List.length_drop] <;> rfl) | rfl | (simp only [List.length_drop, List.length_take]; rfl)) ?_
                  with_reducible refine (ih k (by omega) _ _ (l0.drop (t489 : Int).toNat) t503 _ ?side1 ?side2 A32.out).mono ?_
                  (case side1 => exact upC ((Kd.C_below HR502.out HB.out)))
                  (case side2 => exact HC502.out)
                  rintro e w51 ⟨v504, rfl, ho0, hb⟩
                  refine ⟨_, rfl, ?_⟩
                  have n0_ := Aside0.mk (Kd.R_elder' (by exact upR HO496.out) (Kd.R_base ho0) hb)
                  have n1_ := Aside0.mk (Kd.R_elder' (by exact upR HO511.out) (Kd.R_base ho0) hb)
                  have n2_ := Aside0.mk (Kd.R_elder' (by exact upR HO501.out) (Kd.R_base ho0) hb)
                  have n3_ := Aside0.mk (Kd.R_lower (Kd.R_new' (Kd.R_new' (Kd.R_new' ho0 (Kd.R_lt (by exact upR HO496.out))) (Kd.R_lt (by exact upR HO511.out))) (Kd.R_lt (by exact upR HO501.out))) (below_size (by first | exact upB HB.out | exact HB.out)))
                  have n4_ := Aside0.mk (below_step (by first | exact upB HB.out | exact HB.out) hb)
                  clear HO496
                  clear HO511
                  clear HO501
                  clear HB
                  have HO496 := n0_
                  have HO511 := n1_
                  have HO501 := n2_
                  have HO505 := n3_
                  have HB := n4_
                  clear n0_ n1_ n2_ n3_ n4_
                  (try clear hb)
                  (try clear hb2)
                  (try clear hk)
                  (try clear hi)
                  (try clear ho0)
                  obtain ⟨Ao53, co53, eo53⟩ := Kd.R_slice HO505.out
                  (first | subst eo53 | (injection eo53 with f1_ f2_ f3_; have f4_ := f1_.symm; have f5_ := f3_.symm; clear f1_ f2_ f3_; subst f4_; subst f5_))
                  refine hK.out _ _ trivial (fun hHeld => ?_)
                  clear hK K
                  refine norm_ (a' := ?_) ?_ ?_
                  rotate_left
                  · show Act.put _ (some 40) _ = _
                    simp only [Act.put, List.setIfInBounds_toArray, List.set_cons_zero, List.set_cons_succ, i64_w, i32_w]
                    rfl
                  refine one_ (i := 8) (N := some 41) #[true, true, true, true, true, true, true, true, true, true, true, false, false] rfl rfl (one_of HT_.out (by kernel_rfl)) (by decide) (fun K hK => ?_)
                  refine Kd.R_append_rows_step Kd.string (w0 := w) w.heap.size (by rfl) (.tmp 36) (.tmp 40) 22 9 (.string ⟨#[]⟩) 16 rfl Tryd.underlying22 info9 rfl (by decide) (by omega) v500 t499 t503 _ _ _ (fun k_ => some k_ ≠ (.slice Ao43 y494.length co43 : Value).ownBlock ∧ some k_ ≠ (v510 : Value).ownBlock ∧ some k_ ≠ (.slice Ao53 t503.length co53 : Value).ownBlock) (fun _ => False) rfl rfl ?aO ?aR (fun _ _ h => h) (fun _ h => h.elim) ?aF ?aB ?aS ?aL ?_
                  (case aR => exact upC ((Kd.R_reads' HO505.out).2.2))
                  (case aB => exact (by first | exact upB HB.out | exact HB.out))
                  (case aF => exact (fun k_ hk => ⟨Kd.fresh' (Kd.R_lt (by exact upR HO496.out)) k_ hk, Kd.fresh' (Kd.R_lt (by exact upR HO511.out)) k_ hk, Kd.fresh' (Kd.R_lt (by exact upR HO505.out)) k_ hk⟩))
                  (case aO => exact (by (with_reducible repeat (first | apply Kd.R_alloc | apply Kd.R_drewN | apply Kd.R_drew)); exact Kd.R_mono HO501.out (fun _ hk => ⟨hk.1.1.2, ⟨hk.1.2, hk.2⟩⟩)))
                  (case aS => exact (below_size (by first | exact upB HB.out | exact HB.out)))
                  (case aL => have := LMc33.out; omega)
                  intro v507 w52 ho hb hg hat
                  rw [← Ny506.out] at ho
                  have n0_ := Aside0.mk (Kd.R_after (ok := (fun k_ => some k_ ≠ (v510 : Value).ownBlock ∧ some k_ ≠ (.slice Ao53 t503.length co53 : Value).ownBlock)) (by (with_reducible repeat (first | apply Kd.R_alloc | apply Kd.R_drewN | apply Kd.R_drew)); exact Kd.R_mono HO496.out (fun _ hk => ⟨⟨hk.1.1.2, hk.2⟩, hk.1.2⟩)) hg hat)
                  have n1_ := Aside0.mk (Kd.R_after (ok := (fun k_ => some k_ ≠ (.slice Ao43 y494.length co43 : Value).ownBlock ∧ some k_ ≠ (.slice Ao53 t503.length co53 : Value).ownBlock)) (by (with_reducible repeat (first | apply Kd.R_alloc | apply Kd.R_drewN | apply Kd.R_drew)); exact Kd.R_mono HO511.out (fun _ hk => ⟨⟨hk.1.1.2, hk.2⟩, hk.1.2⟩)) hg hat)
                  have n2_ := Aside0.mk (Kd.R_after (ok := (fun k_ => some k_ ≠ (.slice Ao43 y494.length co43 : Value).ownBlock ∧ some k_ ≠ (v510 : Value).ownBlock)) (by (with_reducible repeat (first | apply Kd.R_alloc | apply Kd.R_drewN | apply Kd.R_drew)); exact Kd.R_mono HO505.out (fun _ hk => ⟨⟨hk.1.1.2, hk.1.2⟩, hk.2⟩)) hg hat)
                  have n3_ := Aside0.mk (hb)
                  have n4_ := Aside0.mk (ho)
                  clear HO496
                  clear HO511
                  clear HO505
                  clear HB
                  clear HO501
                  have HO496 := n0_
                  have HO511 := n1_
                  have HO505 := n2_
                  have HB := n3_
                  have HO508 := n4_
                  clear n0_ n1_ n2_ n3_ n4_
                  clear ho hb hg hat
                  refine hK.out _ _ trivial (fun hHeld => ?_)
                  clear hK K
                  refine norm_ (a' := ?_) ?_ ?_
                  rotate_left
                  · show Act.put _ (some 41) _ = _
                    simp only [Act.put, List.setIfInBounds_toArray, List.set_cons_zero, List.set_cons_succ, i64_w, i32_w]
                    rfl
                  exact norm_ (by simp only [putAll, Act.put, List.setIfInBounds_toArray, List.set_cons_zero, List.set_cons_succ]) (hCont (v500, .slice Ao53 t503.length co53, v507, v510) _ ⟨(by (with_reducible repeat (first | apply Kd.R_alloc | apply Kd.R_drewN | apply Kd.R_drew)); exact Kd.R_mono HO496.out (fun _ hk => ⟨hk.1.2, ⟨hk.2, hk.1.1⟩⟩)), (by (with_reducible repeat (first | apply Kd.R_alloc | apply Kd.R_drewN | apply Kd.R_drew)); exact Kd.R_mono HO505.out (fun _ hk => ⟨hk.1.1, ⟨hk.2, hk.1.2⟩⟩)), (by (with_reducible repeat (first | apply Kd.R_alloc | apply Kd.R_drewN | apply Kd.R_drew)); exact Kd.R_mono HO508.out (fun _ hk => ⟨hk.1, ⟨hk.2.2, hk.2.1⟩⟩)), (by (with_reducible repeat (first | apply Kd.R_alloc | apply Kd.R_drewN | apply Kd.R_drew)); exact Kd.R_mono HO511.out (fun _ hk => ⟨hk.1.1, ⟨hk.1.2, hk.2⟩⟩)), (by first | exact upB HB.out | exact HB.out)⟩)
              rintro ⟨v500, v504, v507, v510⟩ w54 ⟨h0_, h1_, h2_, h3_, h4_⟩
              have n0_ : Aside0 (Kd.R Kd.string 9 w54 w.heap.size (fun k_ => some k_ ≠ (v504 : Value).ownBlock ∧ some k_ ≠ (v507 : Value).ownBlock ∧ some k_ ≠ (v510 : Value).ownBlock) (.slice Ao43 y494.length co43) y494) := ⟨h0_⟩
              have n1_ : Aside0 (Kd.R Kd.string 9 w54 w.heap.size (fun k_ => some k_ ≠ (.slice Ao43 y494.length co43 : Value).ownBlock ∧ some k_ ≠ (v507 : Value).ownBlock ∧ some k_ ≠ (v510 : Value).ownBlock) v504 t503) := ⟨h1_⟩
              have n2_ : Aside0 (Kd.R Kd.string 9 w54 w.heap.size (fun k_ => some k_ ≠ (.slice Ao43 y494.length co43 : Value).ownBlock ∧ some k_ ≠ (v504 : Value).ownBlock ∧ some k_ ≠ (v510 : Value).ownBlock) v507 y506) := ⟨h2_⟩
              have n3_ : Aside0 (Kd.R Kd.string 9 w54 w.heap.size (fun k_ => some k_ ≠ (.slice Ao43 y494.length co43 : Value).ownBlock ∧ some k_ ≠ (v504 : Value).ownBlock ∧ some k_ ≠ (v507 : Value).ownBlock) v510 y509) := ⟨h3_⟩
              have n4_ : Aside0 (Below w.heap.size w w54) := ⟨h4_⟩
              clear HO496
              clear HB
              clear h0_ h1_ h2_ h3_ h4_
              have HO496 := n0_
              have HO505 := n1_
              have HO508 := n2_
              have HO511 := n3_
              have HB := n4_
              clear n0_ n1_ n2_ n3_ n4_
              have hHeld := trivial
              obtain ⟨Ao56, co56, eo56⟩ := Kd.R_slice HO511.out
              (first | subst eo56 | (injection eo56 with f1_ f2_ f3_; have f4_ := f1_.symm; have f5_ := f3_.symm; clear f1_ f2_ f3_; subst f4_; subst f5_))
              refine norm_ (a' := ?_) ?_ ?_
              rotate_left
              · simp only [putAll, Act.put, List.setIfInBounds_toArray, List.set_cons_zero, List.set_cons_succ]
                rfl
              refine one_ (i := 11) (N := some 44) #[true, true, true, true, true, true, true, true, true, true, true, true, false] rfl rfl (one_of HT_.out (by kernel_rfl)) (by decide) (fun K hK => ?_)
              refine Kd.R_append_rows_step Kd.string (w0 := w) w.heap.size (by rfl) (.tmp 41) (.tmp 43) 22 9 (.string ⟨#[]⟩) 16 rfl Tryd.underlying22 info9 rfl (by decide) (by omega) v507 y506 y509 _ _ _ (fun k_ => some k_ ≠ (.slice Ao43 y494.length co43 : Value).ownBlock ∧ some k_ ≠ (v504 : Value).ownBlock ∧ some k_ ≠ (.slice Ao56 y509.length co56 : Value).ownBlock) (fun _ => False) rfl rfl ?aO ?aR (fun _ _ h => h) (fun _ h => h.elim) ?aF ?aB ?aS ?aL ?_
              (case aR => exact upC ((Kd.R_reads' HO511.out).2.2))
              (case aB => exact (by first | exact upB HB.out | exact HB.out))
              (case aF => exact (fun k_ hk => ⟨Kd.fresh' (Kd.R_lt (by exact upR HO496.out)) k_ hk, Kd.fresh' (Kd.R_lt (by exact upR HO505.out)) k_ hk, Kd.fresh' (Kd.R_lt (by exact upR HO511.out)) k_ hk⟩))
              (case aO => exact (by exact upR HO508.out))
              (case aS => exact (below_size (by first | exact upB HB.out | exact HB.out)))
              (case aL => have := LMc34.out; omega)
              intro v513 w55 ho hb hg hat
              rw [← Ny512.out] at ho
              have n0_ := Aside0.mk (Kd.R_after (ok := (fun k_ => some k_ ≠ (v504 : Value).ownBlock ∧ some k_ ≠ (.slice Ao56 y509.length co56 : Value).ownBlock)) (by (with_reducible repeat (first | apply Kd.R_alloc | apply Kd.R_drewN | apply Kd.R_drew)); exact Kd.R_mono HO496.out (fun _ hk => ⟨⟨hk.1, hk.2.2⟩, hk.2.1⟩)) hg hat)
              have n1_ := Aside0.mk (Kd.R_after (ok := (fun k_ => some k_ ≠ (.slice Ao43 y494.length co43 : Value).ownBlock ∧ some k_ ≠ (.slice Ao56 y509.length co56 : Value).ownBlock)) (by (with_reducible repeat (first | apply Kd.R_alloc | apply Kd.R_drewN | apply Kd.R_drew)); exact Kd.R_mono HO505.out (fun _ hk => ⟨⟨hk.1, hk.2.2⟩, hk.2.1⟩)) hg hat)
              have n2_ := Aside0.mk (Kd.R_after (ok := (fun k_ => some k_ ≠ (.slice Ao43 y494.length co43 : Value).ownBlock ∧ some k_ ≠ (v504 : Value).ownBlock)) (by (with_reducible repeat (first | apply Kd.R_alloc | apply Kd.R_drewN | apply Kd.R_drew)); exact Kd.R_mono HO511.out (fun _ hk => ⟨⟨hk.1, hk.2.1⟩, hk.2.2⟩)) hg hat)
              have n3_ := Aside0.mk (hb)
              have n4_ := Aside0.mk (ho)
              clear HO496
              clear HO505
              clear HO511
              clear HB
              clear HO508
              have HO496 := n0_
              have HO505 := n1_
              have HO511 := n2_
              have HB := n3_
              have HO514 := n4_
              clear n0_ n1_ n2_ n3_ n4_
              clear ho hb hg hat
              refine hK.out _ _ trivial (fun hHeld => ?_)
              clear hK K
              refine norm_ (a' := ?_) ?_ ?_
              rotate_left
              · show Act.put _ (some 44) _ = _
                simp only [Act.put, List.setIfInBounds_toArray, List.set_cons_zero, List.set_cons_succ, i64_w, i32_w]
                rfl
              refine pure_ (i := 12) (N := some 2) (v := ?_) (a' := ?_) #[true, true, true, true, true, true, true, true, true, true, true, true, true] rfl rfl (any_of HT_.out (by kernel_rfl)) (fun _ _ _ h => h) (Or.inl ⟨by rfl, ?_⟩) ?_ ?_
              rotate_left
              · intro w'
                go_simp
                with_reducible rfl
              rotate_left
              · simp only [Act.put, List.setIfInBounds_toArray, List.set_cons_zero, List.set_cons_succ, i64_w, i32_w]
                rfl
              refine done_ (done_of HT_.out (by kernel_rfl)) ?_
              try go_wp2
              go_ret
              exact ⟨_, by first | rfl | (simp [errW_none, errW_some] <;> rfl) | (simp [*, errW_none, errW_some] <;> rfl), by (with_reducible repeat (first | apply Kd.R_alloc | apply Kd.R_drewN | apply Kd.R_drew)); exact Kd.R_mono HO514.out (fun _ hk => trivial), by first | exact upB HB.out | exact HB.out⟩
            · rw [if_neg c34] at H
              exact absurd H (by simp)
          · rw [if_neg c33] at H
            exact absurd H (by simp)
        · rw [if_neg c21] at H
          exact absurd H (by simp)
      · rw [if_neg c20] at H
        exact absurd H (by simp)

end Go.Proofs.YteofiiggnegnkaaDoor.P
