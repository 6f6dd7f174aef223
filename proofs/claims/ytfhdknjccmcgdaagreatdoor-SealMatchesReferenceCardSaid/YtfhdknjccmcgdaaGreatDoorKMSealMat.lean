import Derived.Test.YtfhdknjccmcgdaaGreatDoorKML
import Derived.Test.YtfhdknjccmcgdaaGreatDoorKPx0
import Derived.Test.YtfhdknjccmcgdaaGreatDoorKMPx10
import Derived.Test.YtfhdknjccmcgdaaGreatDoorKD
import Derived.Test.YtfhdknjccmcgdaaGreatDoorKTa
set_option linter.unusedVariables false
set_option linter.unusedSimpArgs false
/- The reference's functions of the seals, as the print has them, answer as the program's do; the law SealMatchesReference. -/
namespace Go.Proofs.YtfhdknjccmcgdaaGreatDoor.P
open Go.RowKit Go.Proofs.YtfhdknjccmcgdaaGreatDoor Go.Proofs.YtfhdknjccmcgdaaGreatDoorW.PrintWords Go.Proofs.YtfhdknjccmcgdaaGreatDoorW.PrintLast Go.Proofs.YtfhdknjccmcgdaaGreatDoorW.PrintMore
set_option linter.unusedVariables false
set_option linter.unusedSimpArgs false

/-! ### Start, Chain, Key, Keys -/

theorem m_start (secret : ByteArray) (hs : secret.size ≤ 300) (i j : Nat) (hi : i < 18) (hj : j < 18) (k : Nat) (hk : 2000 ≤ k) : pandectref03_Start.f k secret (i : Int) (j : Int) = some (Sl.start secret i j) := by
  obtain ⟨e1, e2⟩ := startText_is secret hs i j hi hj k hk
  unfold pandectref03_Start.f
  rw [dec_is i k (by omega) (by omega), some_bind, dec_is j k (by omega) (by omega), some_bind]
  unfold pandectref01_List.f
  rw [e1, some_bind, sum_is _ (Nat.le_trans e2 (by decide)) k (by omega), some_bind, some_bind]
  rfl

theorem m_chain_loop (n : Nat) (hn : n ≤ 15) (k : Nat) (hk : 1500 ≤ k) : ∀ (r i : Nat) (s : ByteArray), i + r = n → s.size ≤ 700 → pandectref01_Chain.l0 (r + 1 + k) s (n : Int) (i : Int) = some (Sl.chain r s) := by
  have hm : mn (n : Int) 1000 = (n : Int) := by unfold mn; omega
  intro r
  induction r with
  | zero =>
    intro i s hi hs
    rw [show 0 + 1 + k = k + 1 by omega, pandectref01_Chain.l0, hm, if_neg (by omega)]
    rfl
  | succ r ih =>
    intro i s hi hs
    rw [show r + 1 + 1 + k = (r + 1 + k) + 1 by omega, pandectref01_Chain.l0, hm, if_pos (by omega), sum_is s hs _ (by omega), some_bind, w1 i (by omega), ih (i + 1) _ (by omega) (by rw [Dg.sum_size]; decide)]
    rfl

theorem m_chain (s : ByteArray) (n : Nat) (hn : n ≤ 15) (hs : s.size ≤ 700) (k : Nat) (hk : 1600 ≤ k) : pandectref01_Chain.f k s (n : Int) = some (Sl.chain n s) := by
  obtain ⟨k', rfl⟩ : ∃ k', k = n + 1 + k' := ⟨k - (n + 1), by omega⟩
  exact m_chain_loop n hn k' (by omega) n 0 s (by omega) hs

theorem m_list (l : List ByteArray) (h : l.length = 18) (hs : ∀ x ∈ l, x.size ≤ 16) (k : Nat) (hk : 3000 ≤ k) : pandectref01_List.f k l = some (Dg.list l) := by
  obtain ⟨e1, e2⟩ := joined18_is l h hs k hk
  unfold pandectref01_List.f
  rw [e1, some_bind, sum_is _ e2 k (by omega), some_bind]
  rfl

theorem m_key_loop (secret : ByteArray) (hs : secret.size ≤ 300) (i : Nat) (hi : i < 18) (k : Nat) (hk : 3000 ≤ k) : ∀ (r j : Nat), j + r = 18 → pandectref03_Key.l0 (r + 1 + k) secret (i : Int) ((Sl.ends secret i).take j) (j : Int) = some (Sl.key secret i) := by
  intro r
  induction r with
  | zero =>
    intro j hj
    have : j = 18 := by omega
    subst this
    rw [show 0 + 1 + k = k + 1 by omega, pandectref03_Key.l0, if_neg (by omega), List.take_of_length_le (by rw [Sl.ends_length]; omega), m_list _ (Sl.ends_length secret i) (ends_sz secret i) k hk, some_bind]
    rfl
  | succ r ih =>
    intro j hj
    have hc := m_chain (Sl.start secret i j) 15 (by omega) (by rw [start_size]; omega) (r + 1 + k) (by omega)
    rw [show ((15 : Nat) : Int) = 15 from rfl] at hc
    rw [show r + 1 + 1 + k = (r + 1 + k) + 1 by omega, pandectref03_Key.l0, if_pos (by omega), m_start secret hs i j hi (by omega) _ (by omega), some_bind, hc, some_bind, if_pos (by rw [List.length_take]; omega), w1 j (by omega), ← ends_take secret i j (by omega)]
    exact ih (j + 1) (by omega)

theorem m_key (secret : ByteArray) (hs : secret.size ≤ 300) (i : Nat) (hi : i < 18) (k : Nat) (hk : 3100 ≤ k) : pandectref03_Key.f k secret (i : Int) = some (Sl.key secret i) := by
  obtain ⟨k', rfl⟩ : ∃ k', k = 18 + 1 + k' := ⟨k - 19, by omega⟩
  exact m_key_loop secret hs i hi k' (by omega) 18 0 (by omega)

theorem m_keys_loop (secret : ByteArray) (hs : secret.size ≤ 300) (h N : Nat) (hN : N = 2 ^ h) (hh : h ≤ 3) (hN8 : N ≤ 8) (k : Nat) (hk : 3100 ≤ k) : ∀ (r i : Nat), i + r = N →
    pandectref03_Keys.l0 (r + 1 + k) secret (h : Int) (((List.range N).map (Sl.key secret)).take i) (i : Int) = some ((List.range N).map (Sl.key secret)) := by
  have hp : ∀ q, 10 ≤ q → pandectref03_Power.f q (h : Int) = some ((N : Nat) : Int) := fun q hq => by rw [hN]; exact power_is h (by omega) q hq
  clear hN
  intro r
  induction r with
  | zero =>
    intro i hi
    rw [show 0 + 1 + k = k + 1 by omega, pandectref03_Keys.l0, hp k (by omega), some_bind, if_neg (by omega), List.take_of_length_le (by simp; omega)]
  | succ r ih =>
    intro i hi
    have hlen : (((List.range N).map (Sl.key secret)).take i).length = i := by simp; omega
    have e : ((List.range N).map (Sl.key secret)).take i ++ [Sl.key secret i] = ((List.range N).map (Sl.key secret)).take (i + 1) := by
      rw [List.take_add_one, List.getElem?_eq_getElem (by simp; omega)]
      simp
    rw [show r + 1 + 1 + k = (r + 1 + k) + 1 by omega, pandectref03_Keys.l0, hp _ (by omega), some_bind, if_pos (by omega), m_key secret hs i (by omega) _ (by omega), some_bind, if_pos (by rw [hlen]; omega), w1 i (by omega), e]
    exact ih (i + 1) (by omega)

theorem m_pow8 {h : Nat} (hh : h ≤ 3) : 2 ^ h ≤ 8 := Nat.pow_le_pow_right (show 0 < 2 by decide) hh

theorem m_keys (secret : ByteArray) (hs : secret.size ≤ 300) (h : Nat) (hh : h ≤ 3) (k : Nat) (hk : 3200 ≤ k) : pandectref03_Keys.f k secret (h : Int) = some (Sl.keys secret h) := by
  have h8 := m_pow8 hh
  unfold pandectref03_Keys.f Sl.keys
  generalize hN : 2 ^ h = N at h8 ⊢
  obtain ⟨k', rfl⟩ : ∃ k', k = N + 1 + k' := ⟨k - (N + 1), by omega⟩
  have := m_keys_loop secret hs h N hN.symm hh h8 k' (by omega) N 0 (by omega)
  rw [List.take_zero] at this
  exact this

theorem m_public (secret : ByteArray) (hs : secret.size ≤ 300) (h : Nat) (hh : h ≤ 3) (k : Nat) (hk : 3300 ≤ k) : pandectref03_Public.f k secret (h : Int) = some (Tr.root (Sl.keys secret h), 0) := by
  have h8 := m_pow8 hh
  obtain ⟨k, rfl⟩ : ∃ k', k = k' + 1 := ⟨k - 1, by omega⟩
  unfold pandectref03_Public.f
  rw [if_neg (by omega), decide_eq_false (by omega), pandectref03_Public.j0, if_neg (by simp), m_keys secret hs h hh k (by omega), some_bind, ref_root _ k (by rw [Sl.keys_length]; omega) (keys_small secret h) (by rw [Sl.keys_length]; omega), some_bind]

theorem m_public_bad (secret : ByteArray) (h : Int) (hh : h < 0 ∨ h > 8) (k : Nat) (hk : 1 ≤ k) : pandectref03_Public.f k secret h = some (⟨#[]⟩, 1) := by
  obtain ⟨k, rfl⟩ : ∃ k', k = k' + 1 := ⟨k - 1, by omega⟩
  unfold pandectref03_Public.f
  split
  · rw [pandectref03_Public.j0, if_pos rfl]
  · rw [decide_eq_true (by omega), pandectref03_Public.j0, if_pos rfl]

/-! ### Sign -/

theorem m_sig_take (secret : ByteArray) (i : Nat) (m : ByteArray) (j : Nat) (h : j < 18) : (Sl.sigOf secret i m).take (j + 1) = (Sl.sigOf secret i m).take j ++ [Sl.chain (Sl.dg m j) (Sl.start secret i j)] := by
  rw [List.take_add_one, List.getElem?_eq_getElem (by rw [Sl.sigOf_length]; exact h)]
  simp [Sl.sigOf]

theorem m_sign_loop (secret m : ByteArray) (hs : secret.size ≤ 300) (h : Nat) (hh : h ≤ 3) (i : Nat) (hi : i < 2 ^ h) (k : Nat) (hk : 3300 ≤ k) : ∀ (r j : Nat), j + r = 18 →
    pandectref03_Sign.l0 (r + 1 + k) secret (h : Int) (i : Int) (digI m) (j : Int) (i : Int) ((Sl.sigOf secret i m).take j) = some ((i : Int), Sl.sigOf secret i m, Tr.path (Sl.keys secret h) i, 0) := by
  have h8 := m_pow8 hh
  intro r
  induction r with
  | zero =>
    intro j hj
    have : j = 18 := by omega
    subst this
    rw [show 0 + 1 + k = k + 1 by omega, pandectref03_Sign.l0, if_neg (by omega), m_keys secret hs h hh k (by omega), some_bind, ref_Path _ i (by rw [Sl.keys_length]; omega) (keys_small secret h) (by rw [Sl.keys_length]; exact hi) k (by omega), some_bind, List.take_of_length_le (by rw [Sl.sigOf_length]; omega)]
  | succ r ih =>
    intro j hj
    have hd := Sl.dg_le m j
    rw [show r + 1 + 1 + k = (r + 1 + k) + 1 by omega, pandectref03_Sign.l0, if_pos (by omega), m_start secret hs i j (by omega) (by omega) _ (by omega), some_bind, if_pos (by omega), if_pos (by rw [digI_length]; omega), digI_rd m j (by omega),
      m_chain _ _ hd (by rw [start_size]; omega) _ (by omega), some_bind, if_pos (by rw [List.length_take]; omega), w1 j (by omega), ← m_sig_take secret i m j (by omega)]
    exact ih (j + 1) (by omega)

theorem m_sign (secret m : ByteArray) (hs : secret.size ≤ 300) (hm : m.size ≤ 300) (h : Nat) (hh : h ≤ 3) (i : Nat) (hi : i < 2 ^ h) (k : Nat) (hk : 4000 ≤ k) :
    pandectref03_Sign.f k secret (h : Int) (i : Int) m = some ((i : Int), Sl.sigOf secret i m, Tr.path (Sl.keys secret h) i, 0) := by
  obtain ⟨k, rfl⟩ : ∃ k', k = (18 + 1 + k') + 1 := ⟨k - 20, by omega⟩
  have hlt : ((i : Nat) : Int) < ((2 ^ h : Nat) : Int) := Int.ofNat_lt.2 hi
  unfold pandectref03_Sign.f
  rw [if_neg (by omega), if_neg (by omega), if_neg (by omega), power_is h (by omega) _ (by omega), some_bind, decide_eq_false (Int.not_le.2 hlt), pandectref03_Sign.j0, if_neg (by simp), digits_is m hm _ (by omega), some_bind]
  have := m_sign_loop secret m hs h hh i hi k (by omega) 18 0 (by omega)
  rw [List.take_zero] at this
  exact this

theorem m_sign_bad (secret m : ByteArray) (h i : Int) (hb : h < 0 ∨ h > 8 ∨ i < 0 ∨ i ≥ 2 ^ h.toNat) (k : Nat) (hk : 100 ≤ k) : pandectref03_Sign.f k secret h i m = some (0, [], [], 1) := by
  obtain ⟨k, rfl⟩ : ∃ k', k = k' + 1 := ⟨k - 1, by omega⟩
  unfold pandectref03_Sign.f
  split
  · rw [pandectref03_Sign.j0, if_pos rfl]
  · rename_i h1
    split
    · rw [pandectref03_Sign.j0, if_pos rfl]
    · rename_i h2
      split
      · rw [pandectref03_Sign.j0, if_pos rfl]
      · rename_i h3
        obtain ⟨n, rfl⟩ := Int.eq_ofNat_of_zero_le (show 0 ≤ h by omega)
        have hi : i ≥ ((2 ^ n : Nat) : Int) := by
          have : i ≥ 2 ^ n := by
            rcases hb with e | e | e | e
            · omega
            · omega
            · omega
            · rwa [Int.toNat_natCast] at e
          rw [Sl.two_nat] at this
          exact this
        rw [power_is n (by omega) _ (by omega), some_bind, decide_eq_true hi, pandectref03_Sign.j0, if_pos rfl]

/-! ### Verify -/

def mver (pub : ByteArray) (m : ByteArray) (idx : Int) (sig p : List ByteArray) : Bool := if Tr.proper p = true then Tr.check pub (2 ^ p.length) idx (Dg.list (Sl.fins m sig)) p else false

theorem proper_false {l : List ByteArray} {j : Nat} (hj : j < l.length) (h : Dg.isD l[j] = false) : Tr.proper l = false := by
  cases hp : Tr.proper l with
  | false => rfl
  | true =>
    have := List.all_eq_true.1 hp _ (List.getElem_mem hj)
    rw [h] at this
    cases this

theorem m_ver1 (pub m : ByteArray) (idx : Int) (sig p : List ByteArray) (hl : sig.length = 18) (hsig : Tr.proper sig = true) (hp8 : p.length ≤ 8) (hsm : Small p) (k : Nat) (hk : 1010000 ≤ k) : ∀ (r j : Nat), j + r = p.length → (p.take j).all Dg.isD = true →
    pandectref03_Verify.l1 (r + 1 + k) pub (Sl.fins m sig) (j : Int) idx sig p = some (mver pub m idx sig p) := by
  intro r
  induction r with
  | zero =>
    intro j hj hall
    have hpp : Tr.proper p = true := by rw [List.take_of_length_le (by omega)] at hall; exact hall
    rw [show 0 + 1 + k = k + 1 by omega, pandectref03_Verify.l1, if_neg (by omega), power_is p.length hp8 k (by omega), some_bind, m_list _ (Sl.fins_length m sig) (fins_sz m sig hl hsig) k (by omega), some_bind,
      ref_check pub _ idx _ p (by rw [Dg.list_size]; decide) hsm (by omega) k (by omega), some_bind, mver, if_pos hpp, Sl.two_nat]
  | succ r ih =>
    intro j hj hall
    have hlt : j < p.length := by omega
    rw [show r + 1 + 1 + k = (r + 1 + k) + 1 by omega, pandectref03_Verify.l1, if_pos (by omega), if_pos (by omega), rd_lt p j hlt, ref_is _ (Nat.le_trans (hsm _ (List.getElem_mem hlt)) (by decide)) _ (by omega), some_bind]
    cases hd : Dg.isD p[j] with
    | false => rw [if_neg (by simp), mver, if_neg (by rw [proper_false hlt hd]; simp)]
    | true =>
      rw [if_pos rfl, w1 j (by omega)]
      refine ih (j + 1) (by omega) ?_
      rw [List.take_add_one, List.getElem?_eq_getElem hlt, List.all_append, hall]
      simp [hd]

theorem m_ver0 (pub m : ByteArray) (idx : Int) (sig p : List ByteArray) (hl : sig.length = 18) (hss : Small sig) (hp8 : p.length ≤ 8) (hsm : Small p) (k : Nat) (hk : 1010100 ≤ k) : ∀ (r j : Nat), j + r = 18 → (sig.take j).all Dg.isD = true →
    pandectref03_Verify.l0 (r + 1 + k) pub (digI m) ((Sl.fins m sig).take j) (j : Int) idx sig p = some (if Tr.proper sig = true then mver pub m idx sig p else false) := by
  intro r
  induction r with
  | zero =>
    intro j hj hall
    have hsig : Tr.proper sig = true := by rw [List.take_of_length_le (by omega)] at hall; exact hall
    have : j = 18 := by omega
    subst this
    rw [show 0 + 1 + k = k + 1 by omega, pandectref03_Verify.l0, if_neg (by omega), List.take_of_length_le (by rw [Sl.fins_length]; omega), if_pos hsig]
    obtain ⟨k', rfl⟩ : ∃ k', k = p.length + 1 + k' := ⟨k - (p.length + 1), by omega⟩
    exact m_ver1 pub m idx sig p hl hsig hp8 hsm k' (by omega) p.length 0 (by omega) (by simp)
  | succ r ih =>
    intro j hj hall
    have hlt : j < sig.length := by omega
    have hd := Sl.dg_le m j
    have hz : sig[j].size ≤ 100 := hss _ (List.getElem_mem hlt)
    have e15 : wrap64 (15 - ((Sl.dg m j : Nat) : Int)) = ((15 - Sl.dg m j : Nat) : Int) := by
      generalize Sl.dg m j = d at hd ⊢
      rw [IntWalk.wrap64_in _ (by omega)]
      omega
    have hg : sig.getD j ByteArray.empty = sig[j] := by rw [List.getD_eq_getElem?_getD, List.getElem?_eq_getElem hlt]; rfl
    rw [show r + 1 + 1 + k = (r + 1 + k) + 1 by omega, pandectref03_Verify.l0, if_pos (by omega), if_pos (by omega), if_pos (by omega), rd_lt sig j hlt, ref_is _ (Nat.le_trans hz (by decide)) _ (by omega), some_bind]
    cases hD : Dg.isD sig[j] with
    | false => rw [if_neg (by simp), if_neg (by rw [proper_false hlt hD]; simp)]
    | true =>
      rw [if_pos rfl, if_pos (by rw [digI_length]; omega), digI_rd m j (by omega), e15, m_chain _ _ (Nat.sub_le _ _) (Nat.le_trans hz (by decide)) _ (by omega), some_bind, if_pos (by rw [List.length_take]; omega), w1 j (by omega), ← hg, ← fins_take m sig j (by omega)]
      refine ih (j + 1) (by omega) ?_
      rw [List.take_add_one, List.getElem?_eq_getElem hlt, List.all_append, hall]
      simp [hD]

theorem mver_verify (pub m : ByteArray) (idx : Int) (sig p : List ByteArray) (hl : sig.length = 18) (hp : p.length ≤ 8) (h0 : 0 ≤ idx) (h1 : idx < (2 : Int) ^ p.length) : (if Tr.proper sig = true then mver pub m idx sig p else false) = Sl.verify pub m idx sig p := by
  unfold mver Sl.verify
  cases h2 : Tr.proper sig with
  | false => rw [if_neg (by simp), if_pos (.inr (.inr (.inl rfl)))]
  | true =>
    cases h3 : Tr.proper p with
    | false => rw [if_pos rfl, if_neg (by simp), if_pos (.inr (.inr (.inr (.inl rfl))))]
    | true =>
      rw [if_pos rfl, if_pos rfl, if_neg]
      rintro (e | e | e | e | e | e)
      · exact e hl
      · omega
      · cases e
      · cases e
      · omega
      · exact absurd h1 (Int.not_lt.2 e)

theorem m_verify (pub m : ByteArray) (hm : m.size ≤ 300) (idx : Int) (sig p : List ByteArray) (hss : Small sig) (hsp : Small p) (k : Nat) (hk : 1020000 ≤ k) : pandectref03_Verify.f k pub m idx sig p = some (Sl.verify pub m idx sig p) := by
  obtain ⟨k, rfl⟩ : ∃ k', k = (18 + 1 + k') + 1 := ⟨k - 20, by omega⟩
  unfold pandectref03_Verify.f
  by_cases g1 : sig.length = 18
  · rw [if_pos (by omega)]
    by_cases g2 : p.length ≤ 8
    · rw [if_neg (by omega)]
      by_cases g3 : 0 ≤ idx
      · rw [if_neg (by omega), power_is p.length g2 _ (by omega), some_bind]
        by_cases g4 : idx < (2 : Int) ^ p.length
        · have g5 : ¬ idx ≥ ((2 ^ p.length : Nat) : Int) := by rw [← Sl.two_nat]; exact Int.not_le.2 g4
          rw [decide_eq_false g5, pandectref03_Verify.j0, if_neg (by simp), digits_is m hm _ (by omega), some_bind, ← mver_verify pub m idx sig p g1 g2 g3 g4]
          have := m_ver0 pub m idx sig p g1 hss g2 hsp k (by omega) 18 0 (by omega) (by simp)
          rw [List.take_zero] at this
          exact this
        · have g5 : idx ≥ ((2 ^ p.length : Nat) : Int) := by rw [← Sl.two_nat]; exact Int.not_lt.1 g4
          rw [decide_eq_true g5, pandectref03_Verify.j0, if_pos rfl, Sl.verify_long _ _ _ _ _ (Int.not_lt.1 g4)]
      · rw [if_pos (by omega), pandectref03_Verify.j0, if_pos rfl, Sl.verify_neg _ _ _ _ _ (by omega)]
    · rw [if_pos (by omega), pandectref03_Verify.j0, if_pos rfl]
      unfold Sl.verify
      rw [if_pos (.inr (.inl (by omega)))]
  · rw [if_neg (by omega), pandectref03_Verify.j0, if_pos rfl, Sl.verify_few _ _ _ _ _ g1]

/-! ### the law -/

theorem mat_j1 (m pub a : ByteArray) (hm : m.size ≤ 300) (idx : Int) (sig p : List ByteArray) (hss : Small sig) (hsp : Small p) (k : Nat) (hk : 1030000 ≤ k) : pandectlaw03_SealMatchesReference.j1 k m pub true a a true idx sig p = some true := by
  obtain ⟨k, rfl⟩ : ∃ k', k = k' + 1 := ⟨k - 1, by omega⟩
  rw [pandectlaw03_SealMatchesReference.j1, if_pos rfl, if_pos rfl, verify_is _ m hm _ _ _ _ (by omega), some_bind, m_verify _ m hm _ _ _ hss hsp _ (by omega), some_bind, if_pos (by simp), verify_is _ m hm _ _ _ _ (by omega), some_bind, m_verify _ m hm _ _ _ hss hsp _ (by omega), some_bind]
  simp

theorem law_matches (a0 : ByteArray) (h i : Int) (m pub : ByteArray) (idx : Int) (sig p : List ByteArray) : pandectlaw03_SealMatchesReference.f 2000000 a0 h i m pub idx sig p = some true := by
  generalize hk : (2000000 : Nat) = k
  have hk2 : 1100000 ≤ k := by omega
  clear hk
  obtain ⟨b, hb, hb2⟩ := short_is [a0, m, pub] (by simp) k (by omega)
  obtain ⟨c, hc, hc2⟩ := few3_is idx sig p k (by omega)
  unfold pandectlaw03_SealMatchesReference.f
  rw [head_is k (by omega), some_bind, hb, some_bind]
  obtain ⟨k, rfl⟩ : ∃ q, k = q + 1 := ⟨k - 1, by omega⟩
  cases b with
  | false => rw [if_neg (by simp), pandectlaw03_SealMatchesReference.j0, if_pos rfl]
  | true =>
    have hs0 := hb2 rfl a0 (by simp)
    have hsm := hb2 rfl m (by simp)
    rw [if_pos rfl, hc, some_bind]
    cases c with
    | false => rw [if_neg (by simp), pandectlaw03_SealMatchesReference.j0, if_pos rfl]
    | true =>
      obtain ⟨_, _, hss, hsp⟩ := hc2 rfl
      rw [if_pos rfl]
      have e0 : (if h > 3 then pandectlaw03_SealMatchesReference.j0 (k + 1) a0 h i m pub true (decide (h ≤ 8)) idx sig p else pandectlaw03_SealMatchesReference.j0 (k + 1) a0 h i m pub true false idx sig p) = pandectlaw03_SealMatchesReference.j0 (k + 1) a0 h i m pub true (decide (h > 3 ∧ h ≤ 8)) idx sig p := by
        by_cases g : h > 3
        · rw [if_pos g]; simp [g]
        · rw [if_neg g]; simp [g]
      rw [e0]
      by_cases g : h > 3 ∧ h ≤ 8
      · rw [decide_eq_true g, pandectlaw03_SealMatchesReference.j0, if_pos rfl]
      · rw [decide_eq_false g, pandectlaw03_SealMatchesReference.j0, if_neg (by simp)]
        clear e0 hb hc
        by_cases hbad : h < 0 ∨ h > 8
        · have hb4 : h < 0 ∨ h > 8 ∨ i < 0 ∨ i ≥ 2 ^ h.toNat := hbad.elim .inl fun e => .inr (.inl e)
          rw [public_bad a0 h hbad k (by omega), some_bind, m_public_bad a0 h hbad k (by omega), some_bind, sign_bad_is a0 m h i hb4 k, some_bind, m_sign_bad a0 m h i hb4 k (by omega), some_bind]
          dsimp only
          rw [if_pos rfl, if_pos rfl, if_pos rfl, same3_is _ _ _ _ _ _ (by simp) (by simp) k (by omega), some_bind, decide_eq_true ⟨rfl, rfl, rfl⟩]
          exact mat_j1 m pub _ hsm idx sig p hss hsp k (by omega)
        · obtain ⟨n, rfl⟩ := Int.eq_ofNat_of_zero_le (show 0 ≤ h by omega)
          have hn : n ≤ 3 := by omega
          have hn8 : n ≤ 8 := by omega
          rw [public_is a0 hs0 n (by omega) k (by omega), some_bind, m_public a0 hs0 n hn k (by omega), some_bind]
          by_cases hi : 0 ≤ i ∧ i < ((2 ^ n : Nat) : Int)
          · obtain ⟨q, rfl⟩ := Int.eq_ofNat_of_zero_le hi.1
            have hq : q < 2 ^ n := Int.ofNat_lt.1 hi.2
            have hp := path_sz a0 n q hn8 hq
            rw [sign_is a0 m hs0 hsm n (by omega) q hq k (by omega), some_bind, m_sign a0 m hs0 hsm n hn q hq k (by omega), some_bind]
            dsimp only
            rw [if_pos rfl, if_pos rfl, if_pos rfl, same3_is _ _ _ _ _ _ (by rw [Sl.sigOf_length]; decide) (by rw [hp]; omega) k (by omega), some_bind, decide_eq_true ⟨rfl, rfl, rfl⟩]
            exact mat_j1 m pub _ hsm idx sig p hss hsp k (by omega)
          · have hb4 : (n : Int) < 0 ∨ (n : Int) > 8 ∨ i < 0 ∨ i ≥ 2 ^ (n : Int).toNat := by
              rw [Int.toNat_natCast, Sl.two_nat]
              by_cases hi0 : 0 ≤ i
              · exact .inr (.inr (.inr (Int.not_lt.1 fun e => hi ⟨hi0, e⟩)))
              · exact .inr (.inr (.inl (by omega)))
            rw [sign_bad_is a0 m _ i hb4 k, some_bind, m_sign_bad a0 m _ i hb4 k (by omega), some_bind]
            dsimp only
            rw [if_pos rfl, if_pos rfl, if_pos rfl, same3_is _ _ _ _ _ _ (by simp) (by simp) k (by omega), some_bind, decide_eq_true ⟨rfl, rfl, rfl⟩]
            exact mat_j1 m pub _ hsm idx sig p hss hsp k (by omega)
end Go.Proofs.YtfhdknjccmcgdaaGreatDoor.P
