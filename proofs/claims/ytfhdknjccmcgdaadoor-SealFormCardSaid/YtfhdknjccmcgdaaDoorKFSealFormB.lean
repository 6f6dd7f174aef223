import Derived.Test.YtfhdknjccmcgdaaDoorKFSealForm
import Derived.Test.YtfhdknjccmcgdaaDoorKFL
set_option linter.unusedVariables false
set_option linter.unusedSimpArgs false
/- The law SealForm: its contract, and that it holds. -/
namespace Go.Proofs.YtfhdknjccmcgdaaDoor.P
open Go.RowKit Go.Proofs.YtfhdknjccmcgdaaDoor Go.Proofs.YtfhdknjccmcgdaaDoorW.PrintWords Go.Proofs.YtfhdknjccmcgdaaDoorW.PrintLast Go.Proofs.YtfhdknjccmcgdaaDoorW.PrintMore
set_option linter.unusedVariables false
set_option linter.unusedSimpArgs false

theorem isD_calls_true (s : ByteArray) (h : Dg.isD s = true) (W : World) : Calls Tryd.prog 14 #[.string s] W fun e w' => e = .returned (.bool true) ∧ Below W.heap.size W w' := digest_Is.calls s true W (by unfold digest_Is.f; rw [h])

theorem row_get {w W : World} {A : Option Addr} {l : List ByteArray} (hr : Kd.C Kd.string w A l.length l) (hp : Tr.proper l = true) (hb : Below w.heap.size w W) (n : Nat) (hn : l.length = n) (k : Nat) (hk : k < n) :
    ∃ (ad : Addr) (s : ByteArray), A = some ad ∧ W.cell? (ad.add k) = some (.string s) ∧ Dg.isD s = true := by
  subst hn
  obtain ⟨ad, e, hc⟩ := at_str (Kd.C_below hr hb) k hk hk
  exact ⟨ad, l[k], e, hc, (List.all_eq_true.1 hp) _ (List.getElem_mem hk)⟩

theorem form_b8 (n : Nat) (h : n ≤ 8) : (1 : Int) ≤ 2 ^ n ∧ (2 : Int) ^ n ≤ 256 := by
  have h1 : 2 ^ n ≤ 2 ^ 8 := Nat.pow_le_pow_right (by decide) h
  have h2 : 1 ≤ 2 ^ n := Nat.one_le_two_pow
  have e : ((2 : Int) ^ n) = ((2 ^ n : Nat) : Int) := by simp
  rw [e]
  generalize 2 ^ n = x at h1 h2 ⊢
  have : (2 : Nat) ^ 8 = 256 := by decide
  omega

theorem pandectlaw03_SealForm.calls (k : Nat) (a0 a1 : ByteArray) (a2 : Int) (A1 : Option Addr) (c1 : Nat) (l1 : List ByteArray) (A2 : Option Addr) (c2 : Nat) (l2 : List ByteArray) (r : Bool) (w : World) (hr1 : Kd.C Kd.string w A1 l1.length l1) (hc1 : l1.length ≤ c1) (hr2 : Kd.C Kd.string w A2 l2.length l2) (hc2 : l2.length ≤ c2) (hT : Tabs w) (h : pandectlaw03_SealForm.f k a0 a1 a2 l1 l2 = some r) :
    Calls Tryd.prog 8 #[.string a0, .string a1, .agg #[.int .i64 a2, .slice A1 l1.length c1, .slice A2 l2.length c2]] w fun e w' => e = .returned (.bool r) ∧ Below w.heap.size w w' := by
  unfold pandectlaw03_SealForm.f at h
  obtain ⟨up, h1, ha⟩ := Option.bind_eq_some_iff.1 h
  clear h
  obtain ⟨b, h2, hb⟩ := Option.bind_eq_some_iff.1 ha
  clear ha
  have HH : ∀ W : World, Below w.heap.size w W → Calls Tryd.prog 9 #[] W fun e w' => e = .returned (.bool up) ∧ Below W.heap.size W w' := fun W hW => pandectlaw03_head.calls k up W (tabs_below hT hW) h1
  have HS : ∀ (W : World) (A : Option Addr) (q : Nat), Below w.heap.size w W → Kd.C Kd.string W A 2 [a0, a1] → 2 ≤ q → Calls Tryd.prog 10 #[.slice A 2 q] W fun e w' => e = .returned (.bool b) ∧ Below W.heap.size W w' :=
    fun W A q hW hC hq => (pandectlaw03_short.calls k A q [a0, a1] b W hC hq h2).mono fun e w' ⟨he, hd⟩ => ⟨he, hd.below⟩
  have HFew : ∀ c, pandectref03_Few.f k a2 l1 l2 = some c → ∀ W : World, Below w.heap.size w W → Calls Tryd.prog 17 #[.agg #[.int .i64 a2, .slice A1 l1.length c1, .slice A2 l2.length c2]] W fun e w' => e = .returned (.bool c) ∧ Below W.heap.size W w' :=
    fun c hc W hW => pandectref03_Few.calls k a2 A1 c1 l1 A2 c2 l2 c W (Kd.C_below hr1 hW) hc1 (Kd.C_below hr2 hW) hc2 hc
  have HVer : ∀ (j : Int) (v : Bool), seal_Verify.f k a0 a1 j l1 l2 = some v → ∀ W : World, Below w.heap.size w W → Calls Tryd.prog 16 #[.string a0, .string a1, .agg #[.int .i64 j, .slice A1 l1.length c1, .slice A2 l2.length c2]] W fun e w' => e = .returned (.bool v) ∧ Below W.heap.size W w' :=
    fun j v hv W hW => seal_Verify.calls k a0 a1 j A1 c1 l1 A2 c2 l2 v W (Kd.C_below hr1 hW) hc1 (Kd.C_below hr2 hW) hc2 (tabs_below hT hW) hv
  cases b with
  | false =>
    obtain rfl := Option.some.inj hb
    exact form_early0 a0 a1 a2 A1 l1.length c1 A2 l2.length c2 up false false false w HH HS (fun e => by cases e) (fun e => by cases e) rfl
  | true =>
    obtain ⟨c, h3, hc⟩ := Option.bind_eq_some_iff.1 hb
    clear hb
    have HF := HFew c h3
    cases c with
    | false =>
      obtain rfl := Option.some.inj hc
      exact form_early1 a0 a1 a2 A1 l1.length c1 A2 l2.length c2 up true false false w HH HS (fun _ => HF) (fun _ e => by cases e) rfl rfl
    | true =>
      obtain ⟨v, h4, hv⟩ := Option.bind_eq_some_iff.1 hc
      clear hc
      have HV := HVer a2 v h4
      cases v with
      | false =>
        obtain rfl := Option.some.inj hv
        exact form_early2 a0 a1 a2 A1 l1.length c1 A2 l2.length c2 up true true false w HH HS (fun _ => HF) (fun _ _ => HV) rfl rfl rfl
      | true =>
        replace hv : form2 k a0 a1 a2 l1 l2 up = some r := hv
        unfold form2 at hv
        by_cases hg : l1.length = 18 ∧ l2.length ≤ 8 ∧ 0 ≤ a2 ∧ a2 < 2 ^ l2.length ∧ Dg.isD a0 = true ∧ Tr.proper l1 = true ∧ Tr.proper l2 = true ∧ up = true
        · rw [if_pos hg] at hv
          obtain ⟨g1, g2, g3, g4, g5, g6, g7, rfl⟩ := hg
          unfold form3 at hv
          obtain ⟨v1, q1, he⟩ := Option.bind_eq_some_iff.1 hv
          clear hv
          obtain ⟨v2, q2, hf⟩ := Option.bind_eq_some_iff.1 he
          clear he
          obtain ⟨v3, q3, hg⟩ := Option.bind_eq_some_iff.1 hf
          clear hf
          unfold form4 at hg
          split at hg
          · rename_i hz
            obtain ⟨rfl, rfl, rfl⟩ := hz
            obtain rfl := Option.some.inj hg
            have hp8 := form_b8 l2.length g2
            have hw : wrap64 ((2 : Int) ^ l2.length) = 2 ^ l2.length := IntWalk.wrap64_in _ (by omega)
            have hza : wrap64 (a2 + wrap64 ((2 : Int) ^ l2.length)) = a2 + 2 ^ l2.length := by rw [hw]; exact IntWalk.wrap64_in _ (by omega)
            have hzs : wrap64 (a2 - wrap64 ((2 : Int) ^ l2.length)) = a2 - 2 ^ l2.length := by rw [hw]; exact IntWalk.wrap64_in _ (by omega)
            have hlt : a2 < wrap64 ((2 : Int) ^ l2.length) := by rw [hw]; exact g4
            have HR1 : ∀ W : World, Below w.heap.size w W → ∀ k, k < 18 → ∃ (ad : Addr) (s : ByteArray), A1 = some ad ∧ W.cell? (ad.add k) = some (.string s) ∧ Dg.isD s = true := fun W hW k hk => row_get hr1 g6 hW 18 g1 k hk
            have HR2 : ∀ W : World, Below w.heap.size w W → ∀ k, k < l2.length → ∃ (ad : Addr) (s : ByteArray), A2 = some ad ∧ W.cell? (ad.add k) = some (.string s) ∧ Dg.isD s = true := fun W hW k hk => row_get hr2 g7 hW _ rfl k hk
            have HV1 : ∀ W : World, Below w.heap.size w W → Calls Tryd.prog 16 #[.string a0, .string a1, .agg #[.int .i64 a2, .slice A1 17 c1, .slice A2 l2.length c2]] W fun e w' => e = .returned (.bool false) ∧ Below W.heap.size W w' := fun W hW => by
              have hl : (l1.take 17).length = 17 := by rw [List.length_take]; omega
              have := seal_Verify.calls k a0 a1 a2 A1 c1 (l1.take 17) A2 c2 l2 false W (Kd.C_take (Kd.C_below hr1 hW) (show 17 ≤ l1.length by omega)) (by rw [hl]; omega) (Kd.C_below hr2 hW) hc2 (tabs_below hT hW) q1
              rw [hl] at this
              exact this
            have HV2 := HVer _ _ q2
            have HV3 := HVer _ _ q3
            rw [g1] at HF HV HV2 HV3 ⊢
            have hc18 : 18 ≤ c1 := by omega
            clear hr1 hr2 h1 h2 h3 h4 q1 q2 q3 hw hp8 g4 HFew HVer hc1 hc2
            exact form_main a0 a1 a2 A1 c1 A2 l2.length c2 (a2 + 2 ^ l2.length) (a2 - 2 ^ l2.length) w HH HS HF HV HV1 HV2 HV3 isD_calls_true HR1 HR2 g5 hc18 g2 g3 hlt hza hzs
          · cases hg
        · rw [if_neg hg] at hv
          cases hv

theorem law_form (a0 a1 : ByteArray) (idx : Int) (sig p : List ByteArray) : pandectlaw03_SealForm.f 20000000 a0 a1 idx sig p = some true := by
  generalize hk : (20000000 : Nat) = k
  have hk2 : 10000010 ≤ k := by omega
  clear hk
  obtain ⟨b, hb, hb2⟩ := short_is [a0, a1] (by simp) k (by omega)
  obtain ⟨c, hc, hc2⟩ := few3_is idx sig p k (by omega)
  have k1 : 100 ≤ k := by omega
  unfold pandectlaw03_SealForm.f
  rw [head_is k (by omega), some_bind, hb, some_bind]
  cases b with
  | false => rfl
  | true =>
    have hs1 := hb2 rfl a1 (by simp)
    unfold formb
    rw [hc, some_bind]
    cases c with
    | false => rfl
    | true =>
      unfold form0
      rw [verify_is a0 a1 hs1 idx sig p k k1, some_bind]
      cases hv : Sl.verify a0 a1 idx sig p with
      | false => rfl
      | true =>
        obtain ⟨i, hi, g1, g2, g3, g4, g5, g6⟩ := Sl.verify_true hv
        have hd := Sl.verify_pub hv
        have h0 : 0 ≤ idx := by omega
        have hlt : idx < (2 : Int) ^ p.length := by rw [hi, Sl.two_nat]; exact Int.ofNat_lt.2 g5
        unfold form1 form2
        rw [if_pos ⟨g1, g2, h0, hlt, hd, g3, g4, rfl⟩]
        unfold form3
        have e1 : (2 : Int) ^ p.length ≤ idx + 2 ^ p.length := by omega
        have e2 : idx - 2 ^ p.length < 0 := by omega
        have e3 : (sig.take 17).length ≠ 18 := by rw [List.length_take]; omega
        rw [verify_is a0 a1 hs1 _ _ _ k k1, some_bind, verify_is a0 a1 hs1 _ _ _ k k1, some_bind, verify_is a0 a1 hs1 _ _ _ k k1, some_bind,
          Sl.verify_few _ _ _ _ _ e3, Sl.verify_long _ _ _ _ _ e1, Sl.verify_neg _ _ _ _ _ e2]
        rfl
end Go.Proofs.YtfhdknjccmcgdaaDoor.P
