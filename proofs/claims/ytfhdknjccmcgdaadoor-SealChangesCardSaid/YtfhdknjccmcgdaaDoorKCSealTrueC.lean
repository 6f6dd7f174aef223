import Derived.Test.YtfhdknjccmcgdaaDoorKCL
import Derived.Test.YtfhdknjccmcgdaaDoorKCPxC
set_option linter.unusedVariables false
set_option linter.unusedSimpArgs false
/- The law SealChanges of the printed function. -/
namespace Go.Proofs.YtfhdknjccmcgdaaDoor.P
open Go.RowKit Go.Proofs.YtfhdknjccmcgdaaDoor Go.Proofs.YtfhdknjccmcgdaaDoorW.PrintWords Go.Proofs.YtfhdknjccmcgdaaDoorW.PrintLast Go.Proofs.YtfhdknjccmcgdaaDoorW.PrintMore
set_option linter.unusedVariables false
set_option linter.unusedSimpArgs false

theorem changes_j1 (a0 m : ByteArray) (hs0 : a0.size ≤ 300) (hmo : m.size ≤ 300) (h : Nat) (h2 : h ≤ 2) (i : Nat) (hi : i < 2 ^ h) (idx : Int) (sig p : List ByteArray) (hsl : sig.length ≤ 100) (hpl : p.length ≤ 100)
    (hcase : idx = (i : Int) ∨ sig = Sl.sigOf a0 i m) (k : Nat) (hk : 10000000 ≤ k) :
    pandectlaw03_SealChanges.j1 (k + 1 + 1) a0 m true (h : Int) (Tr.root (Sl.keys a0 h)) (i : Int) (Sl.sigOf a0 i m) (Tr.path (Sl.keys a0 h) i) idx sig p = some true := by
  have k1 : 100 ≤ k + 1 := by omega
  have k11 : 1100 ≤ k + 1 := by omega
  have k2 : 9100000 ≤ k := by omega
  have k3 : 8000 ≤ k := by omega
  have k4 : 6000 ≤ k := by omega
  have h8 : h ≤ 8 := by omega
  clear hk
  rw [pandectlaw03_SealChanges.j1, same3_is _ _ _ _ _ _ (by omega) (by omega) _ k11, some_bind]
  by_cases hsame : idx = (i : Int) ∧ sig = Sl.sigOf a0 i m ∧ p = Tr.path (Sl.keys a0 h) i
  · rw [decide_eq_true hsame, if_pos rfl, pandectlaw03_SealChanges.j2, if_pos rfl]
  · rw [decide_eq_false hsame, if_neg (by simp), verify_is _ m hmo _ _ _ _ k1, some_bind]
    cases hv : Sl.verify (Tr.root (Sl.keys a0 h)) m idx sig p with
    | false => rw [Bool.not_false, pandectlaw03_SealChanges.j2, if_pos rfl]
    | true =>
      obtain ⟨j, rfl, hl, hp8, hsp, hpp, hlt, hup⟩ := Sl.verify_true hv
      have A0 := Sl.made_has a0 h 15 h2
      have hcoll : Tr.Coll (Sl.made a0 h 15 ++ Sl.checked m j sig p) (Sl.made a0 h 15 ++ Sl.checked m j sig p) := by
        rcases Sl.sound a0 h h8 m j 15 (Nat.le_refl _) sig p _ _ A0 (Sl.checked_chk m j sig p hp8 hlt) hl hp8 hlt hup with hc | ⟨e1, e2, e3⟩
        · exact coll_both hc
        · by_cases hij : j = i
          · subst hij
            exact absurd ⟨rfl, e3, e1⟩ hsame
          · have hs : sig = Sl.sigOf a0 i m := hcase.resolve_left fun e => hij (Int.ofNat.inj e)
            rcases Sl.same_sig a0 a0 h h j i 15 (Nat.le_refl _) m _ _ A0 A0 e2 hi (e3.symm.trans hs) with e | hc
            · exact absurd e.2 hij
            · exact hc.mono (fun x hx => List.mem_append_left _ hx) (fun x hx => List.mem_append_left _ hx)
      have sm := proper_small hpp
      have l1 := made15_len a0 h h2
      have l2 := checked_len m j sig p hp8
      have m15 := made_is a0 hs0 h h2 15 (by decide) (by decide) k k3
      rw [show ((15 : Nat) : Int) = 15 from rfl] at m15
      rw [Bool.not_true, pandectlaw03_SealChanges.j2, if_neg (by simp), if_pos rfl, m15, some_bind, checked_is m hmo j _ _ hl hsp hp8 sm (i_small hlt hp8) k k4, some_bind,
        if_pos (Nat.lt_of_le_of_lt (Nat.add_le_add l1 l2) (by decide)),
        shown_two _ _ (Nat.le_trans l1 (by decide)) (.inl l2) (made_sz a0 hs0 h h2 15) (checked_sz _ _ _ _ hl hsp sm) hcoll k k2, some_bind]

theorem changes_at (v h : Nat) (hv : v ≤ 255) (hh : h ≤ 8) : ¬ wrap64 (19 + (h : Int)) = 0 ∧ Int.tmod (wrap64 (v : Int)) (wrap64 (19 + (h : Int))) = ((v % (19 + h) : Nat) : Int) ∧ wrap64 (18 + (h : Int)) = ((18 + h : Nat) : Int) := by
  have e : wrap64 (19 + (h : Int)) = ((19 + h : Nat) : Int) := by rw [IntWalk.wrap64_in _ (by omega)]; omega
  refine ⟨by rw [e]; omega, ?_, by rw [IntWalk.wrap64_in _ (by omega)]; omega⟩
  rw [e]
  exact raw_mod v (19 + h) hv (by omega)

theorem changes_lt {a b : Nat} (ha : a ≤ 100) (hb : b = 0) : b + a < 8796093022208 := by omega

theorem changes_j0 (a0 m x : ByteArray) (hs0 : a0.size ≤ 300) (hmo : m.size ≤ 300) (h : Nat) (h2 : h ≤ 2) (i : Nat) (hi : i < 2 ^ h) (v : Nat) (hv : v ≤ 255) (k : Nat) (hk : 10000000 ≤ k) :
    pandectlaw03_SealChanges.j0 (k + 1 + 1 + 1) a0 m (v : Int) x true (h : Int) (Tr.root (Sl.keys a0 h)) false (i : Int) (Sl.sigOf a0 i m) (Tr.path (Sl.keys a0 h) i) = some true := by
  have h8 : h ≤ 8 := by omega
  have hi255 : i + 1 ≤ 255 := by
    have := pow_mono h2
    have : (2 : Nat) ^ 2 = 4 := by decide
    omega
  obtain ⟨c1, c2, c3⟩ := changes_at v h hv h8
  have hp := path_sz a0 h i h8 hi
  have hl := Sl.sigOf_length a0 i m
  have L1 : ([] : List ByteArray).length + (Sl.sigOf a0 i m).length < 8796093022208 := changes_lt (by rw [hl]; decide) rfl
  have L2 : ([] : List ByteArray).length + (Tr.path (Sl.keys a0 h) i).length < 8796093022208 := changes_lt (by rw [hp]; omega) rfl
  have hs := changes_j1 a0 m hs0 hmo h h2 i hi
  have hsx : ∀ q, ((Sl.sigOf a0 i m).set q x).length ≤ 100 := fun q => by rw [List.length_set, hl]; decide
  have hpx : ∀ q, ((Tr.path (Sl.keys a0 h) i).set q x).length ≤ 100 := fun q => by rw [List.length_set, hp]; omega
  have hs1 : (Sl.sigOf a0 i m).length ≤ 100 := by rw [hl]; decide
  have hp1 : (Tr.path (Sl.keys a0 h) i).length ≤ 100 := by rw [hp]; omega
  rw [pandectlaw03_SealChanges.j0, if_neg (by simp), some_bind, if_pos L1, some_bind, some_bind, if_pos L2, some_bind, if_neg c1, c2, c3]
  rw [List.nil_append, List.nil_append]
  generalize hq : v % (19 + h) = q
  by_cases q1 : (q : Int) < 18
  · have q2 : (q : Int) < ((Sl.sigOf a0 i m).length : Int) := by rw [hl]; exact q1
    rw [if_pos q1, if_pos (Int.natCast_nonneg q), if_pos q2]
    exact hs _ _ _ (hsx _) hp1 (.inl rfl) k hk
  · rw [if_neg q1]
    by_cases q2 : (q : Int) < ((18 + h : Nat) : Int)
    · have e : wrap64 ((q : Int) - 18) = ((q - 18 : Nat) : Int) := by rw [IntWalk.wrap64_in _ (by omega)]; omega
      have q3 : ((q - 18 : Nat) : Int) < ((Tr.path (Sl.keys a0 h) i).length : Int) := by rw [hp]; omega
      rw [if_pos q2, e, if_pos (Int.natCast_nonneg _), if_pos q3]
      exact hs _ _ _ hs1 (hpx _) (.inl rfl) k hk
    · have e : Int.tmod (wrap64 ((i : Int) + 1)) (shl .i64 1 (h : Int)) = (((i + 1) % 2 ^ h : Nat) : Int) := raw_idx (i + 1) h hi255 h8
      rw [if_neg q2, if_pos (Int.natCast_nonneg h), if_neg (shl_ne h h8), e]
      exact hs _ _ _ hs1 hp1 (.inr rfl) k hk

theorem law_changes (a0 m x : ByteArray) (u v t : Nat) (hu : u ≤ 255) (hv : v ≤ 255) (ht : t ≤ 255) : pandectlaw03_SealChanges.f 20000000 a0 (u : Int) (v : Int) m (t : Int) x = some true := by
  generalize hk : (20000000 : Nat) = k
  have hk2 : 10000010 ≤ k := by omega
  clear hk
  have hr := raw_mod u 3 hu (by decide)
  rw [show ((3 : Nat) : Int) = 3 from rfl] at hr
  have hh : u % 3 ≤ 2 := by omega
  unfold pandectlaw03_SealChanges.f
  obtain ⟨b, hb, hb2⟩ := short_is [a0, m, x] (by simp) k (by omega)
  rw [head_is k (by omega), some_bind, hr]
  generalize u % 3 = h at hh ⊢
  have h4 : h ≤ 4 := by omega
  have h8 : h ≤ 8 := by omega
  have h0 : (0 : Int) ≤ (h : Int) := by omega
  obtain ⟨k, rfl⟩ : ∃ q, k = q + 1 + 1 + 1 := ⟨k - 3, by omega⟩
  have k2 : 2000 ≤ k + 1 + 1 + 1 := by omega
  have k3 : 10000000 ≤ k := by omega
  rw [raw_idx v h hv h8, if_pos h0, if_neg (shl_ne h h8), hb, some_bind]
  have hi := idx_lt v h
  generalize v % 2 ^ h = i at hi ⊢
  cases b with
  | false => rw [if_neg (by simp)]
  | true =>
    have hs0 := hb2 rfl a0 (by simp)
    have hsm := hb2 rfl m (by simp)
    have hne : (((Tr.path (Sl.keys a0 h) i).length : Int) != (h : Int)) = false := by rw [path_sz a0 h i h8 hi]; simp
    have hl : (((Sl.sigOf a0 i m).length : Nat) : Int) = 18 := by rw [Sl.sigOf_length]; rfl
    rw [if_pos rfl, public_is a0 hs0 h h4 _ k2, some_bind, sign_is a0 m hs0 hsm h h4 i hi _ k2, some_bind]
    dsimp only
    rw [if_pos rfl, if_pos rfl, if_pos hl, hne]
    exact changes_j0 a0 m x hs0 hsm h hh i hi t ht k k3
end Go.Proofs.YtfhdknjccmcgdaaDoor.P
