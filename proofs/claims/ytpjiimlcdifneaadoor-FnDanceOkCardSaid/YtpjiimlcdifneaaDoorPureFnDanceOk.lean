/- What the walked law FnDanceOk computes, answers true. -/
import Derived.Test.YtpjiimlcdifneaaDoorPFnDanceOkx2
import Derived.OpenShut
namespace Go.Proofs.YtpjiimlcdifneaaDoor.Pure
open Go.RowKit Go.Proofs.YtpjiimlcdifneaaDoor.PFnDanceOk Go.Proofs.YtpjiimlcdifneaaDoorW.PrintWords Go.Proofs.YtpjiimlcdifneaaDoorW.PrintLast Go.Proofs.YtpjiimlcdifneaaDoorW.PrintMore
set_option linter.unusedVariables false
set_option linter.unusedSimpArgs false
theorem sf {P : Prop} [Decidable P] (h : ¬P) : some false = some (decide P) := by simp [h]
theorem sd {P Q : Prop} [Decidable P] [Decidable Q] (h : P ↔ Q) : some (decide P) = some (decide Q) := by simp [h]
theorem w64 {n : Int} (h : -9223372036854775808 ≤ n ∧ n ≤ 9223372036854775807) : wrap64 n = n := by unfold wrap64; omega
def Fr (u d : Int) : Prop := -1000000 ≤ u ∧ u ≤ 1000000 ∧ 0 ≤ d ∧ d ≤ 1000000 ∧ (d = 0 → u = 1) ∧ (Int.gcd u d = 1)
instance (u d : Int) : Decidable (Fr u d) := by unfold Fr; exact inferInstance
def Pt (n : Int) : Prop := -1000000 ≤ n ∧ n ≤ 1000000
instance (n : Int) : Decidable (Pt n) := by unfold Pt; exact inferInstance
theorem gcd_step (a b : Int) : Int.gcd b (Int.tmod a b) = Int.gcd a b := by
  unfold Int.gcd
  rw [Int.natAbs_tmod, Nat.gcd_comm a.natAbs b.natAbs, Nat.gcd_rec b.natAbs a.natAbs, Nat.gcd_comm]
theorem tmod_lt (a b : Int) (h : b ≠ 0) : (Int.tmod a b).natAbs < b.natAbs := by
  rw [Int.natAbs_tmod]
  exact Nat.mod_lt _ (by omega)
theorem tdiv_le (a b : Int) : (Int.tdiv a b).natAbs ≤ a.natAbs := by
  rw [Int.natAbs_tdiv]
  exact Nat.div_le_self _ _
def t2 (n : Int) : Bool := decide (2 ≤ n ∧ n ≤ 60)
theorem bt_get (s : ByteArray) (i : Int) (h0 : 0 ≤ i) (h : i.toNat < s.size) : bt s i = (s.data.toList[i.toNat]'(by simpa using h)).toNat := by
  unfold bt
  rw [dif_pos h]
  rfl
def mv (c : UInt8) : Bool := c == 84 || c == 116 || c == 82
def dok (l : List UInt8) : Bool := l.all mv
theorem mv_iff (c : UInt8) : mv c = true ↔ ((c.toNat : Int) = 84 ∨ (c.toNat : Int) = 116 ∨ (c.toNat : Int) = 82) := by
  unfold mv
  simp only [Bool.or_eq_true, beq_iff_eq]
  have e1 : (84 : UInt8).toNat = 84 := rfl
  have e2 : (116 : UInt8).toNat = 116 := rfl
  have e3 : (82 : UInt8).toNat = 82 := rfl
  rw [← UInt8.toNat_inj, ← UInt8.toNat_inj, ← UInt8.toNat_inj, e1, e2, e3]
  omega
def Dn (s : ByteArray) : Prop := dok s.data.toList = true ∧ s.size ≤ 40
instance (s : ByteArray) : Decidable (Dn s) := by unfold Dn; exact inferInstance
theorem impl_isPart_ev (n : Int) : impl_isPart.f n = some (decide (Pt n)) := by
  unfold impl_isPart.f Pt
  split
  · exact sd (by omega)
  · exact sf (by omega)
theorem impl_gcd_l0 (n : Nat) : ∀ (k : Nat) (a b : Int), b.natAbs ≤ n → n < k → a.natAbs ≤ 4611686018427387904 → b.natAbs ≤ 4611686018427387904 → impl_gcd.l0 k a b = some (Int.gcd a b : Int) := by
  induction n with
  | zero =>
    intro k a b hb hk ha _
    obtain ⟨k, rfl⟩ : ∃ m, k = m + 1 := ⟨k - 1, by omega⟩
    have hb0 : b = 0 := by omega
    simp only [impl_gcd.l0]
    rw [if_pos hb0, w64 (by omega), hb0, Int.gcd_zero_right]
    unfold mx; congr 1; split <;> omega
  | succ n ih =>
    intro k a b hb hk ha hb'
    obtain ⟨k, rfl⟩ : ∃ m, k = m + 1 := ⟨k - 1, by omega⟩
    simp only [impl_gcd.l0]
    by_cases h : b = 0
    · rw [if_pos h, w64 (by omega), h, Int.gcd_zero_right]
      unfold mx; congr 1; split <;> omega
    · rw [if_neg h]
      have := tmod_lt a b h
      rw [ih k b (Int.tmod a b) (by omega) (by omega) (by omega) (by omega), gcd_step]
theorem impl_gcd_ev (k : Nat) (hk : 1000002 ≤ k) (a b : Int) (ha : Pt a) (hb : Pt b) : impl_gcd.f k a b = some (Int.gcd a b : Int) := by
  unfold Pt at ha hb
  exact impl_gcd_l0 1000001 k a b (by omega) (by omega) (by omega) (by omega)
theorem impl_isFraction_ev (k : Nat) (hk : 1000002 ≤ k) (u d : Int) : impl_isFraction.f k u d = some (decide (Fr u d)) := by
  unfold impl_isFraction.f
  simp only [impl_isPart_ev, Option.bind_some, decide_eq_true_eq]
  by_cases hu : Pt u
  · rw [if_pos hu]
    by_cases h1 : d < 0
    · rw [if_pos h1]; exact sf (by intro h; unfold Fr at h; omega)
    · rw [if_neg h1]
      by_cases h2 : d > 1000000
      · rw [if_pos h2]; exact sf (by intro h; unfold Fr at h; omega)
      · rw [if_neg h2]
        have hd : Pt d := by unfold Pt; omega
        rw [impl_gcd_ev k hk u d hu hd]
        unfold Pt at hu
        have e : ((Int.gcd u d : Int) == 1) = decide (Int.gcd u d = 1) := by rw [Bool.eq_iff_iff]; simp; omega
        simp only [Option.bind_some, e]
        by_cases h3 : d = 0
        · rw [if_pos h3]
          by_cases h4 : u = 1
          · rw [if_pos h4]; exact sd (by unfold Fr; omega)
          · rw [if_neg h4]; exact sf (by intro h; unfold Fr at h; omega)
        · rw [if_neg h3]; exact sd (by unfold Fr; omega)
  · rw [if_neg hu]; exact sf (by intro h; unfold Fr at h; unfold Pt at hu; omega)
theorem impl_FractionOk_ev (k : Nat) (hk : 1000002 ≤ k) (u d : Int) : impl_FractionOk.f k u d = some (decide (Fr u d)) := by
  unfold impl_FractionOk.f
  rw [impl_isFraction_ev k hk]; rfl
def Bs (l : List Int) : Prop := l.length ≤ 2000 ∧ ∀ i, 0 ≤ rd l i ∧ rd l i ≤ 255
theorem xor_nn (a b : Int) (ha : 0 ≤ a ∧ a ≤ 4611686018427387903) (hb : 0 ≤ b ∧ b ≤ 4611686018427387903) : 0 ≤ Go.bits .xor .i64 a b := by
  obtain ⟨m, rfl⟩ : ∃ m : Nat, a = m := ⟨a.toNat, by omega⟩
  obtain ⟨n, rfl⟩ : ∃ m : Nat, b = m := ⟨b.toNat, by omega⟩
  have hm : m < 2 ^ 62 := by omega
  have hn : n < 2 ^ 62 := by omega
  have hx := Nat.xor_lt_two_pow hm hn
  have e1 : m % 2 ^ IntKind.i64.bits = m := Nat.mod_eq_of_lt (Nat.lt_trans hm (by decide))
  have e2 : n % 2 ^ IntKind.i64.bits = n := Nat.mod_eq_of_lt (Nat.lt_trans hn (by decide))
  simp only [Go.bits, BitVec.ofInt_natCast, BitVec.toNat_xor, BitVec.toNat_ofNat, e1, e2]
  have e3 := IntKind.wrap_i64 ((m ^^^ n : Nat) : Int)
  rw [e3]
  omega
theorem tmod_rng (a n : Int) (ha : 0 ≤ a) (hn : 1 ≤ n) : 0 ≤ Int.tmod a n ∧ Int.tmod a n < n := ⟨Int.tmod_nonneg n ha, Int.tmod_lt_of_pos a (by omega)⟩
theorem pick_ev (k : Nat) (hk : 1 ≤ k) (l : List Int) (hl : Bs l) (p n : Int) (hp : 0 ≤ p ∧ p ≤ 1000000) (hn : n ≤ 10000000) :
    ∃ r, spec_l20Rd_pick.f k l p n = some (r, p + 1) ∧ 0 ≤ r ∧ (1 ≤ n → r < n) ∧ (n < 1 → r = 0) := by
  obtain ⟨k, rfl⟩ : ∃ m, k = m + 1 := ⟨k - 1, by omega⟩
  unfold spec_l20Rd_pick.f
  have e0 : wrap64 (p + 1) = p + 1 := w64 (by omega)
  have e1 : wrap64 (p + 1 - 1) = p := by rw [w64 (by omega)]; omega
  rw [e0]
  by_cases h1 : n < 1
  · rw [if_pos h1]
    simp only [spec_l20Rd_pick.j0]
    rw [if_pos trivial]
    exact ⟨0, rfl, by omega, by omega, fun _ => rfl⟩
  · rw [if_neg h1]
    simp only [spec_l20Rd_pick.j0]
    by_cases h2 : (l.length : Int) = 0
    · rw [if_pos (by simpa using h2)]
      exact ⟨0, rfl, by omega, by omega, fun _ => rfl⟩
    · rw [if_neg (by simpa using h2), e1]
      have hn0 : ¬ n = 0 := by omega
      by_cases h3 : p < (l.length : Int)
      · rw [if_pos h3, if_pos hp.1, if_neg hn0]
        have hr := hl.2 p
        rw [w64 (by omega : -9223372036854775808 ≤ rd l p ∧ _)]
        have := tmod_rng (rd l p) n (by omega) (by omega)
        exact ⟨_, rfl, this.1, fun _ => this.2, by omega⟩
      · rw [if_neg h3, if_neg h2]
        have t1 := tmod_rng p (l.length : Int) hp.1 (by omega)
        have e7 : wrap64 (wrap64 (p * 7) + 3) = p * 7 + 3 := by rw [w64 (by omega : -9223372036854775808 ≤ p * 7 ∧ _), w64 (by omega)]
        rw [e7]
        have t2 := tmod_rng (p * 7 + 3) (l.length : Int) (by omega) (by omega)
        rw [if_pos t1.1, if_pos t1.2, if_pos t2.1, if_pos t2.2, if_neg hn0]
        have r1 := hl.2 (Int.tmod p (l.length : Int))
        have r2 := hl.2 (Int.tmod (p * 7 + 3) (l.length : Int))
        generalize rd l (Int.tmod p (l.length : Int)) = a at r1 ⊢
        generalize rd l (Int.tmod (p * 7 + 3) (l.length : Int)) = b at r2 ⊢
        have q0 := tdiv_le p (l.length : Int)
        have q1 : 0 ≤ Int.tdiv p (l.length : Int) := Int.tdiv_nonneg hp.1 (by omega)
        generalize Int.tdiv p (l.length : Int) = q at q0 q1 ⊢
        have e2 : wrap64 a = a := w64 (by omega)
        have e3 : wrap64 b = b := w64 (by omega)
        have e4 : wrap64 q = q := w64 (by omega)
        rw [e2, e3, e4]
        have e5 : wrap64 (a * 131) = a * 131 := w64 (by omega)
        have e6 : wrap64 (b * 1117) = b * 1117 := w64 (by omega)
        have e8 : wrap64 (q * 53) = q * 53 := w64 (by omega)
        have e9 : wrap64 (p * 29) = p * 29 := w64 (by omega)
        rw [e5, e6, e8, e9]
        have e10 : wrap64 (a * 131 + b * 1117) = a * 131 + b * 1117 := w64 (by omega)
        rw [e10]
        have e11 : wrap64 (a * 131 + b * 1117 + p * 29) = a * 131 + b * 1117 + p * 29 := w64 (by omega)
        rw [e11]
        have e12 : wrap64 (a * 131 + b * 1117 + p * 29 + q * 53) = a * 131 + b * 1117 + p * 29 + q * 53 := w64 (by omega)
        rw [e12]
        have hX : 0 ≤ a * 131 + b * 1117 + p * 29 + q * 53 ∧ a * 131 + b * 1117 + p * 29 + q * 53 ≤ 4611686018427387903 := by omega
        generalize a * 131 + b * 1117 + p * 29 + q * 53 = X at hX ⊢
        have q2 := tdiv_le X 64
        have q3 : 0 ≤ Int.tdiv X 64 := Int.tdiv_nonneg hX.1 (by omega)
        have e13 : wrap64 (Int.tdiv X 64) = Int.tdiv X 64 := w64 (by omega)
        rw [e13]
        have := tmod_rng _ n (xor_nn X (Int.tdiv X 64) hX (by omega)) (by omega)
        exact ⟨_, rfl, this.1, fun _ => this.2, by omega⟩
theorem odd_ev (k : Nat) (hk : 1 ≤ k) (l : List Int) (hl : Bs l) (p n : Int) (hp : 0 ≤ p ∧ p ≤ 1000000) (hn : n ≤ 10000000) :
    ∃ b p', spec_l20Rd_odd.f k l p n = some (b, p') ∧ p ≤ p' ∧ p' ≤ p + 1 := by
  unfold spec_l20Rd_odd.f
  by_cases h : n > 0
  · rw [if_pos h]
    obtain ⟨r, e, _⟩ := pick_ev k hk l hl p n hp hn
    rw [e]
    exact ⟨_, _, rfl, by omega, by omega⟩
  · rw [if_neg h]; exact ⟨_, _, rfl, by omega, by omega⟩
theorem open_ev (l : List Int) (hw : ∀ x ∈ l, (Lit.int .u8 x).wf = true) : ∃ m, spec_l20Open.f l = some (m, 0) ∧ Bs m := by
  have key : ∀ m : List Int, m.length ≤ 2000 → (∀ x ∈ m, x ∈ l) → Bs m := by
    intro m hm hs
    refine ⟨hm, fun i => ?_⟩
    unfold rd
    by_cases h : i.toNat < m.length
    · have : m.getD i.toNat 0 = m[i.toNat] := by simp [h]
      rw [this]
      have h1 := hw _ (hs _ (List.getElem_mem h))
      simp [Lit.wf, IntKind.min, IntKind.max, IntKind.signed, IntKind.bits] at h1
      omega
    · have : m.getD i.toNat 0 = 0 := by simp [Nat.le_of_not_lt h]
      rw [this]; omega
  unfold spec_l20Open.f
  by_cases h : (l.length : Int) > 2000
  · rw [if_pos h, if_pos (by omega)]
    exact ⟨_, rfl, key _ (by simp; omega) (fun x hx => List.mem_of_mem_take hx)⟩
  · rw [if_neg h]
    exact ⟨_, rfl, key _ (by omega) (fun x hx => hx)⟩
theorem alive_ev (k : Nat) (hk : 1000002 ≤ k) : laws_alive.f k = some true := by
  unfold laws_alive.f
  simp only [impl_FractionOk_ev k hk, Option.bind_some]
  decide
theorem spec_DanceOk_l0 (s : ByteArray) (hn : s.size ≤ 1000000000) (d : Nat) : ∀ (k : Nat) (i : Int), 0 ≤ i → i + d = s.size → d < k → spec_DanceOk.l0 k s i = some (decide (dok (s.data.toList.drop i.toNat) = true ∧ s.size ≤ 40)) := by
  have hsz : s.data.toList.length = s.size := by simp
  induction d with
  | zero =>
    intro k i h0 hd hk
    obtain ⟨k, rfl⟩ : ∃ m, k = m + 1 := ⟨k - 1, by omega⟩
    simp only [spec_DanceOk.l0]
    rw [if_neg (by omega), List.drop_eq_nil_of_le (by omega)]
    exact sd ⟨fun x => ⟨rfl, by omega⟩, fun x => by omega⟩
  | succ d ih =>
    intro k i h0 hd hk
    obtain ⟨k, rfl⟩ : ∃ m, k = m + 1 := ⟨k - 1, by omega⟩
    simp only [spec_DanceOk.l0]
    have h1 : i.toNat < s.size := by omega
    have h2 : i.toNat < s.data.toList.length := by omega
    rw [if_pos (by omega), if_pos h0, w64 (by omega), ih k (i + 1) (by omega) (by omega) (by omega)]
    have e : (i + 1).toNat = i.toNat + 1 := by omega
    rw [e, bt_get s i h0 h1, List.drop_eq_getElem_cons h2]
    generalize s.data.toList[i.toNat] = c
    have hm := mv_iff c
    have hc : dok (c :: List.drop (i.toNat + 1) s.data.toList) = (mv c && dok (List.drop (i.toNat + 1) s.data.toList)) := rfl
    rw [hc]
    by_cases c1 : (c.toNat : Int) = 84
    · rw [if_pos c1]; have : mv c = true := hm.2 (Or.inl c1); rw [this, Bool.true_and]
    · rw [if_neg c1]
      by_cases c2 : (c.toNat : Int) = 116
      · rw [if_pos c2]; have : mv c = true := hm.2 (Or.inr (Or.inl c2)); rw [this, Bool.true_and]
      · rw [if_neg c2]
        by_cases c3 : (c.toNat : Int) = 82
        · rw [if_pos c3]; have : mv c = true := hm.2 (Or.inr (Or.inr c3)); rw [this, Bool.true_and]
        · rw [if_neg c3]
          have : mv c = false := by
            rcases Bool.eq_false_or_eq_true (mv c) with h | h
            · have := hm.1 h; omega
            · exact h
          rw [this, Bool.false_and]
          exact sf (by simp)
theorem spec_DanceOk_ev (k : Nat) (s : ByteArray) (hk : s.size < k) (hn : s.size ≤ 1000000000) : spec_DanceOk.f k s = some (decide (Dn s)) := by
  unfold spec_DanceOk.f
  rw [spec_DanceOk_l0 s hn s.size k 0 (by omega) (by omega) hk]
  rfl
theorem rdOf_sz (L : List ByteArray) (h : ∀ x ∈ L, x.size ≤ 50) (r : Int) : (rdOf ByteArray.empty L r).size ≤ 50 := by
  unfold rdOf
  by_cases hr : r.toNat < L.length
  · have : L.getD r.toNat ByteArray.empty = L[r.toNat] := by simp [hr]
    rw [this]
    exact h _ (List.getElem_mem hr)
  · have : L.getD r.toNat ByteArray.empty = ByteArray.empty := by simp [Nat.le_of_not_lt hr]
    rw [this]
    decide
theorem dance_ev (k : Nat) (l : List Int) (hl : Bs l) (p a n : Int) (hk : a.toNat + 4 < k) (hp : 0 ≤ p ∧ p ≤ 900000) (ha : 0 ≤ a ∧ a ≤ 1000) (hn : n ≤ 10000000) :
    ∃ s p', spec_l20Dance.f k l p a n = some (s, p') ∧ p ≤ p' ∧ p' ≤ p + a + 5 ∧ s.size ≤ 50 * a.toNat + 50 := by
  have j : ∀ (d : Nat) (k : Nat) (s : ByteArray) (p : Int), d + 2 < k → 0 ≤ p → p + d ≤ 901010 → s.size + 50 * d ≤ 100000 → ∃ t p', spec_l20Dance.l0 k n s (d : Int) l p = some (t, p') ∧ p ≤ p' ∧ p' ≤ p + d + 2 ∧ t.size ≤ s.size + 50 * d + 50 := by
    intro d
    induction d with
    | zero =>
      intro k s p hk h0 h1 hs
      obtain ⟨k, rfl⟩ : ∃ m, k = m + 1 := ⟨k - 1, by omega⟩
      simp only [spec_l20Dance.l0]
      rw [if_neg (by omega)]
      obtain ⟨b, p', e, h2, h3⟩ := odd_ev k (by omega) l hl p n (by omega) hn
      rw [e]
      simp only [Option.bind_some]
      by_cases hb : b = true
      · rw [if_pos hb]
        obtain ⟨r, e2, h4, h5, _⟩ := pick_ev k (by omega) l hl p' 3 (by omega) (by omega)
        rw [e2]
        simp only [Option.bind_some]
        have h6 := h5 (by omega)
        rw [if_pos h4, if_pos (by simp only [List.length_cons, List.length_nil]; omega)]
        split
        · exact ⟨_, _, rfl, by omega, by omega, by rw [ByteArray.size_append]; exact Nat.le_trans (Nat.add_le_add_left (rdOf_sz _ (by decide) r) _) (by omega)⟩
        · rename_i hc
          exact absurd (Nat.le_trans (Nat.add_le_add_left (rdOf_sz _ (by decide) r) _) (by omega)) hc
      · rw [if_neg hb]
        exact ⟨_, _, rfl, by omega, by omega, by omega⟩
    | succ d ih =>
      intro k s p hk h0 h1 hs
      obtain ⟨k, rfl⟩ : ∃ m, k = m + 1 := ⟨k - 1, by omega⟩
      simp only [spec_l20Dance.l0]
      rw [if_pos (by omega)]
      simp only [Option.bind_some]
      obtain ⟨r, e2, h4, h5, _⟩ := pick_ev k (by omega) l hl p 6 (by omega) (by omega)
      rw [e2]
      simp only [Option.bind_some]
      have h6 := h5 (by omega)
      rw [if_pos h4, if_pos (by simp only [List.length_cons, List.length_nil]; omega), if_pos (Nat.le_trans (Nat.add_le_add_left (rdOf_sz _ (by decide) r) _) (by omega)), w64 (by omega)]
      have h7 := rdOf_sz [(⟨#[84]⟩ : ByteArray), (⟨#[84]⟩ : ByteArray), (⟨#[82]⟩ : ByteArray), (⟨#[116]⟩ : ByteArray), (⟨#[82]⟩ : ByteArray), (⟨#[84]⟩ : ByteArray)] (by decide) r
      have e3 : ((d + 1 : Nat) : Int) - 1 = (d : Int) := by omega
      rw [e3]
      obtain ⟨t, p', e4, h8, h9, h10⟩ := ih k (s ++ rdOf ByteArray.empty [(⟨#[84]⟩ : ByteArray), (⟨#[84]⟩ : ByteArray), (⟨#[82]⟩ : ByteArray), (⟨#[116]⟩ : ByteArray), (⟨#[82]⟩ : ByteArray), (⟨#[84]⟩ : ByteArray)] r) (p + 1) (by omega) (by omega) (by omega) (by rw [ByteArray.size_append]; omega)
      rw [ByteArray.size_append] at h10
      exact ⟨t, p', e4, by omega, by omega, by omega⟩
  unfold spec_l20Dance.f
  rw [w64 (by omega)]
  obtain ⟨r, e1, h1, h2, _⟩ := pick_ev k (by omega) l hl p (a + 1) (by omega) (by omega)
  rw [e1]
  simp only [Option.bind_some]
  have h3 := h2 (by omega)
  obtain ⟨d, rfl⟩ : ∃ d : Nat, r = d := ⟨r.toNat, by omega⟩
  obtain ⟨t, p', e4, h8, h9, h10⟩ := j d k (⟨#[]⟩ : ByteArray) (p + 1) (by omega) (by omega) (by omega) (by show 0 + 50 * d ≤ 100000; omega)
  have e0 : (⟨#[]⟩ : ByteArray).size = 0 := rfl
  rw [e0] at h10
  exact ⟨t, p', e4, by omega, by omega, by omega⟩
theorem impl_areMoves_ev (s : ByteArray) (hn : s.size ≤ 1000000000) : impl_areMoves.f s = some (dok s.data.toList) := by
  unfold impl_areMoves.f; rw [if_pos (by omega)]; rfl
theorem impl_isDance_ev (s : ByteArray) : impl_isDance.f s = some (decide (Dn s)) := by
  unfold impl_isDance.f
  by_cases h : (s.size : Int) ≤ 40
  · rw [if_pos h, impl_areMoves_ev s (by omega)]
    show some (dok s.data.toList) = _
    congr 1
    by_cases hd : dok s.data.toList = true
    · rw [hd, decide_eq_true (show Dn s from ⟨hd, by omega⟩)]
    · rw [decide_eq_false (show ¬ Dn s from fun x => hd x.1)]; simpa using hd
  · rw [if_neg h, decide_eq_false (fun x => h (by have := x.2; omega))]
theorem impl_DanceOk_ev (s : ByteArray) : impl_DanceOk.f s = some (decide (Dn s)) := by unfold impl_DanceOk.f; rw [impl_isDance_ev]; rfl
theorem FnDanceOk (l0 : List Int) (hw : ∀ x ∈ l0, (Lit.int .u8 x).wf = true) : ∃ k, laws_FnDanceOk.f k l0 = some true := by
  refine ⟨3000000, ?_⟩
  unfold laws_FnDanceOk.f
  by_cases h : (l0.length : Int) > 1048576
  · rw [if_pos h]
  · rw [if_neg h]
    unfold spec_DrawDanceOk.f
    obtain ⟨m, e, hm⟩ := open_ev l0 hw
    obtain ⟨s, p', e2, _, _, hs⟩ := dance_ev 3000000 m hm 0 12 2 (by decide) (by omega) (by omega) (by omega)
    have hs' : s.size ≤ 1000 := by have : (12 : Int).toNat = 12 := rfl; omega
    rw [e]
    simp only [Option.bind_some]
    rw [e2]
    simp only [Option.bind_some]
    have d0 : Dn (⟨#[]⟩ : ByteArray) := by decide
    have d1 : Dn (⟨#[82]⟩ : ByteArray) := by decide
    have d2 : Dn (⟨#[116]⟩ : ByteArray) := by decide
    have d3 : ¬ Dn (⟨#[114]⟩ : ByteArray) := by decide
    rw [impl_DanceOk_ev, spec_DanceOk_ev _ s (by omega) (by omega), impl_DanceOk_ev, impl_DanceOk_ev, impl_DanceOk_ev, impl_DanceOk_ev, decide_eq_true d0, decide_eq_true d1, decide_eq_true d2, decide_eq_false d3, alive_ev _ (by omega)]
    simp
end Go.Proofs.YtpjiimlcdifneaaDoor.Pure
