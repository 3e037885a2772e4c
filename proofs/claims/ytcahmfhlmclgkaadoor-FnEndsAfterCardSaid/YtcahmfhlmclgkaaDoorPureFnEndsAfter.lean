/- What the walked law FnEndsAfter computes, answers true. -/
import Derived.Test.YtcahmfhlmclgkaaDoorPFnEndsAfterx6
import Derived.OpenShut
namespace Go.Proofs.YtcahmfhlmclgkaaDoor.Pure
open Go.RowKit Go.Proofs.YtcahmfhlmclgkaaDoor.PFnEndsAfter Go.Proofs.YtcahmfhlmclgkaaDoorW.PrintWords Go.Proofs.YtcahmfhlmclgkaaDoorW.PrintLast Go.Proofs.YtcahmfhlmclgkaaDoorW.PrintMore
set_option linter.unusedVariables false
set_option linter.unusedSimpArgs false
theorem st {P : Prop} [Decidable P] (h : P) : some true = some (decide P) := by simp [h]
theorem sf {P : Prop} [Decidable P] (h : ¬P) : some false = some (decide P) := by simp [h]
theorem sd {P Q : Prop} [Decidable P] [Decidable Q] (h : P ↔ Q) : some (decide P) = some (decide Q) := by simp [h]
theorem w64 {n : Int} (h : -9223372036854775808 ≤ n ∧ n ≤ 9223372036854775807) : wrap64 n = n := by unfold wrap64; omega
def kd (u d : Int) : Int := if Int.tmod u 2 = 0 then 0 else if Int.tmod d 2 = 0 then 1 else 2
def Fr (u d : Int) : Prop := -1000000 ≤ u ∧ u ≤ 1000000 ∧ 0 ≤ d ∧ d ≤ 1000000 ∧ (d = 0 → u = 1) ∧ (Int.gcd u d = 1)
instance (u d : Int) : Decidable (Fr u d) := by unfold Fr; exact inferInstance
def Pt (n : Int) : Prop := -1000000 ≤ n ∧ n ≤ 1000000
instance (n : Int) : Decidable (Pt n) := by unfold Pt; exact inferInstance
theorem gcd_step (a b : Int) : Int.gcd b (Int.tmod a b) = Int.gcd a b := by
  unfold Int.gcd
  rw [Int.natAbs_tmod, Nat.gcd_comm a.natAbs b.natAbs, Nat.gcd_rec b.natAbs a.natAbs, Nat.gcd_comm]
theorem tmod_lt (a b : Int) (h : b ≠ 0) : (Int.tmod a b).natAbs < b.natAbs := by
  rw [Int.natAbs_tmod]
  exact Nat.mod_lt _ (by omega)
theorem tdiv_le (a b : Int) : (Int.tdiv a b).natAbs ≤ a.natAbs := by
  rw [Int.natAbs_tdiv]
  exact Nat.div_le_self _ _
theorem tdiv_w (a b : Int) (h : -1000000 ≤ a ∧ a ≤ 1000000) : wrap64 (Int.tdiv a b) = Int.tdiv a b := by
  have := tdiv_le a b
  exact w64 (by omega)
theorem gcd_le_pt (a b : Int) (ha : Pt a) (hb : Pt b) : (Int.gcd a b : Int) ≤ 1000000 := by
  unfold Pt at ha hb
  by_cases h : a = 0
  · subst h
    rw [Int.zero_gcd]
    omega
  · have := Int.gcd_le_natAbs_left b h
    omega
theorem gcd_pos (a b : Int) (h : ¬(a = 0 ∧ b = 0)) : 0 < Int.gcd a b := by
  rcases Nat.eq_zero_or_pos (Int.gcd a b) with h' | h'
  · exact absurd (Int.gcd_eq_zero_iff.mp h') h
  · exact h'
def sg (u d : Int) : Int := if d < 0 ∨ (d = 0 ∧ u < 0) then -(Int.gcd u d : Int) else (Int.gcd u d : Int)
def lowU (u d : Int) : Int := Int.tdiv u (sg u d)
def lowD (u d : Int) : Int := Int.tdiv d (sg u d)
theorem mulb {a b : Int} (ha : Pt a) (hb : Pt b) : -1000000000000 ≤ a * b ∧ a * b ≤ 1000000000000 := by
  unfold Pt at ha hb
  have h1 : a.natAbs ≤ 1000000 := by omega
  have h2 : b.natAbs ≤ 1000000 := by omega
  have := Nat.mul_le_mul h1 h2
  rw [← Int.natAbs_mul] at this
  omega
theorem wmul {a b : Int} (ha : Pt a) (hb : Pt b) : wrap64 (a * b) = a * b := by
  have := mulb ha hb
  exact w64 (by omega)
theorem Fr.pu {u d : Int} (h : Fr u d) : Pt u := ⟨h.1, h.2.1⟩
theorem Fr.pd {u d : Int} (h : Fr u d) : Pt d := by unfold Fr at h; unfold Pt; omega
theorem Fr.ne {u d : Int} (h : Fr u d) : ¬(-d = 0 ∧ u = 0) := by
  unfold Fr at h; omega
theorem Fr.wn {u d : Int} (h : Fr u d) : wrap64 (-d) = -d := by
  unfold Fr at h; exact w64 (by omega)
theorem Fr.pn {u d : Int} (h : Fr u d) : Pt (-d) := by
  unfold Fr at h; unfold Pt; omega
def ovU (u d : Int) : Int := if u ≤ 0 then d else -d
def ovD (u : Int) : Int := if u ≤ 0 then -u else u
theorem low_one {u d : Int} (h : Int.gcd u d = 1) : lowU u d = (if d < 0 ∨ (d = 0 ∧ u < 0) then -u else u) ∧ lowD u d = (if d < 0 ∨ (d = 0 ∧ u < 0) then -d else d) := by
  unfold lowU lowD sg
  rw [h]
  split
  · simp
  · simp
theorem low_over {u d : Int} (h : Fr u d) : lowU (-d) u = ovU u d ∧ lowD (-d) u = ovD u := by
  have hg : Int.gcd (-d) u = 1 := by rw [Int.neg_gcd, Int.gcd_comm]; exact h.2.2.2.2.2
  obtain ⟨e1, e2⟩ := low_one hg
  rw [e1, e2]
  unfold Fr at h
  unfold ovU ovD
  by_cases h1 : u < 0
  · rw [if_pos (Or.inl h1), if_pos (Or.inl h1), if_pos (by omega), if_pos (by omega)]; omega
  · by_cases h2 : u = 0
    · have : d = 1 ∨ d ≠ 1 := by omega
      have hd : 0 < d := by omega
      rw [if_pos (Or.inr ⟨h2, by omega⟩), if_pos (Or.inr ⟨h2, by omega⟩), if_pos (by omega), if_pos (by omega)]; omega
    · rw [if_neg (by omega), if_neg (by omega), if_neg (by omega), if_neg (by omega)]; omega
theorem t2z (u : Int) : Int.tmod u 2 = 0 ↔ u % 2 = 0 := by rw [← Int.dvd_iff_tmod_eq_zero, ← Int.dvd_iff_emod_eq_zero]
theorem Fr.odd {u d : Int} (h : Fr u d) : ¬ (u % 2 = 0 ∧ d % 2 = 0) := by
  intro x
  have h1 : (2 : Int) ∣ u := Int.dvd_of_emod_eq_zero x.1
  have h2 : (2 : Int) ∣ d := Int.dvd_of_emod_eq_zero x.2
  have h3 : (2 : Int) ∣ (Int.gcd u d : Int) := Int.dvd_coe_gcd h1 h2
  rw [h.2.2.2.2.2] at h3
  omega
theorem Fr.over {u d : Int} (h : Fr u d) : Fr (ovU u d) (ovD u) := by
  have hn := h.ne
  have hg := h.2.2.2.2.2
  have hc : Int.gcd d u = 1 := by rw [Int.gcd_comm]; exact hg
  unfold Fr at h
  unfold ovU ovD
  by_cases h1 : u ≤ 0
  · rw [if_pos h1, if_pos h1]
    exact ⟨by omega, by omega, by omega, by omega, fun x => by
      have hu : u = 0 := by omega
      subst hu
      rw [Int.gcd_zero_right] at hc
      omega, by rw [Int.gcd_neg]; exact hc⟩
  · rw [if_neg h1, if_neg h1]
    exact ⟨by omega, by omega, by omega, by omega, by omega, by rw [Int.neg_gcd]; exact hc⟩
theorem kd_eq (u d : Int) : kd u d = if u % 2 = 0 then 0 else if d % 2 = 0 then 1 else 2 := by
  unfold kd
  simp only [t2z]
theorem kd_over {u d : Int} (h : Fr u d) : kd (ovU u d) (ovD u) = if kd u d = 0 then 1 else if kd u d = 1 then 0 else 2 := by
  have ho := h.odd
  have e1 : (ovU u d) % 2 = 0 ↔ d % 2 = 0 := by unfold ovU; split <;> omega
  have e2 : (ovD u) % 2 = 0 ↔ u % 2 = 0 := by unfold ovD; split <;> omega
  rw [kd_eq, kd_eq]
  simp only [e1, e2]
  by_cases h1 : u % 2 = 0
  · by_cases h2 : d % 2 = 0
    · exact absurd ⟨h1, h2⟩ ho
    · simp [h1, h2]
  · by_cases h2 : d % 2 = 0
    · simp [h1, h2]
    · simp [h1, h2]
theorem kd_plus {u d : Int} (h : Fr u d) : kd (u + d) d = if kd u d = 0 then 2 else if kd u d = 1 then 1 else 0 := by
  have ho := h.odd
  rw [kd_eq, kd_eq]
  by_cases h1 : u % 2 = 0
  · by_cases h2 : d % 2 = 0
    · exact absurd ⟨h1, h2⟩ ho
    · have h3 : ¬ (u + d) % 2 = 0 := by omega
      simp [h1, h2, h3]
  · by_cases h2 : d % 2 = 0
    · have h3 : ¬ (u + d) % 2 = 0 := by omega
      simp [h1, h2, h3]
    · have h3 : (u + d) % 2 = 0 := by omega
      simp [h1, h2, h3]
def endsL (u d : Int) : List Int := if kd u d = 0 then [1, 0, 3, 2] else if kd u d = 1 then [2, 3, 0, 1] else [3, 2, 1, 0]
def pl (u d n : Int) : Int × Int × Bool := if Fr (u + n * d) d then (u + n * d, d, true) else (0, 0, false)
theorem wplus {u d n : Int} (hu : Pt u) (hd : Pt d) (hn : Pt n) : wrap64 (u + wrap64 (n * d)) = u + n * d := by
  have := mulb hn hd
  rw [wmul hn hd]
  unfold Pt at hu
  exact w64 (by omega)
theorem kd_rng (u d : Int) : kd u d = 0 ∨ kd u d = 1 ∨ kd u d = 2 := by
  unfold kd
  split
  · exact Or.inl rfl
  · split
    · exact Or.inr (Or.inl rfl)
    · exact Or.inr (Or.inr rfl)
def t2 (n : Int) : Bool := decide (2 ≤ n ∧ n ≤ 60)
theorem bt_get (s : ByteArray) (i : Int) (h0 : 0 ≤ i) (h : i.toNat < s.size) : bt s i = (s.data.toList[i.toNat]'(by simpa using h)).toNat := by
  unfold bt
  rw [dif_pos h]
  rfl
def mv (c : UInt8) : Bool := c == 84 || c == 116 || c == 82
def dok (l : List UInt8) : Bool := l.all mv
theorem mv_iff (c : UInt8) : mv c = true ↔ ((c.toNat : Int) = 84 ∨ (c.toNat : Int) = 116 ∨ (c.toNat : Int) = 82) := by
  unfold mv
  simp only [Bool.or_eq_true, beq_iff_eq]
  have e1 : (84 : UInt8).toNat = 84 := rfl
  have e2 : (116 : UInt8).toNat = 116 := rfl
  have e3 : (82 : UInt8).toNat = 82 := rfl
  rw [← UInt8.toNat_inj, ← UInt8.toNat_inj, ← UInt8.toNat_inj, e1, e2, e3]
  omega
def Dn (s : ByteArray) : Prop := dok s.data.toList = true ∧ s.size ≤ 40
instance (s : ByteArray) : Decidable (Dn s) := by unfold Dn; exact inferInstance
theorem u8_eq (c : UInt8) (n : Nat) (hn : n < 256) : ((c.toNat : Int) = (n : Int)) ↔ c = UInt8.ofNat n := by
  constructor
  · intro h
    have : c.toNat = n := by omega
    rw [← UInt8.toNat_inj, this]
    simp
    omega
  · intro h
    rw [h]
    simp
    omega
theorem impl_isPart_ev (n : Int) : impl_isPart.f n = some (decide (Pt n)) := by
  unfold impl_isPart.f Pt
  split
  · exact sd (by omega)
  · exact sf (by omega)
theorem impl_gcd_l0 (n : Nat) : ∀ (k : Nat) (a b : Int), b.natAbs ≤ n → n < k → a.natAbs ≤ 4611686018427387904 → b.natAbs ≤ 4611686018427387904 → impl_gcd.l0 k a b = some (Int.gcd a b : Int) := by
  induction n with
  | zero =>
    intro k a b hb hk ha _
    obtain ⟨k, rfl⟩ : ∃ m, k = m + 1 := ⟨k - 1, by omega⟩
    have hb0 : b = 0 := by omega
    simp only [impl_gcd.l0]
    rw [if_pos hb0, w64 (by omega), hb0, Int.gcd_zero_right]
    unfold mx; congr 1; split <;> omega
  | succ n ih =>
    intro k a b hb hk ha hb'
    obtain ⟨k, rfl⟩ : ∃ m, k = m + 1 := ⟨k - 1, by omega⟩
    simp only [impl_gcd.l0]
    by_cases h : b = 0
    · rw [if_pos h, w64 (by omega), h, Int.gcd_zero_right]
      unfold mx; congr 1; split <;> omega
    · rw [if_neg h]
      have := tmod_lt a b h
      rw [ih k b (Int.tmod a b) (by omega) (by omega) (by omega) (by omega), gcd_step]
theorem impl_gcd_ev (k : Nat) (hk : 1000002 ≤ k) (a b : Int) (ha : Pt a) (hb : Pt b) : impl_gcd.f k a b = some (Int.gcd a b : Int) := by
  unfold Pt at ha hb
  exact impl_gcd_l0 1000001 k a b (by omega) (by omega) (by omega) (by omega)
theorem impl_isFraction_ev (k : Nat) (hk : 1000002 ≤ k) (u d : Int) : impl_isFraction.f k u d = some (decide (Fr u d)) := by
  unfold impl_isFraction.f
  simp only [impl_isPart_ev, Option.bind_some, decide_eq_true_eq]
  by_cases hu : Pt u
  · rw [if_pos hu]
    by_cases h1 : d < 0
    · rw [if_pos h1]; exact sf (by intro h; unfold Fr at h; omega)
    · rw [if_neg h1]
      by_cases h2 : d > 1000000
      · rw [if_pos h2]; exact sf (by intro h; unfold Fr at h; omega)
      · rw [if_neg h2]
        have hd : Pt d := by unfold Pt; omega
        rw [impl_gcd_ev k hk u d hu hd]
        unfold Pt at hu
        have e : ((Int.gcd u d : Int) == 1) = decide (Int.gcd u d = 1) := by rw [Bool.eq_iff_iff]; simp; omega
        simp only [Option.bind_some, e]
        by_cases h3 : d = 0
        · rw [if_pos h3]
          by_cases h4 : u = 1
          · rw [if_pos h4]; exact sd (by unfold Fr; omega)
          · rw [if_neg h4]; exact sf (by intro h; unfold Fr at h; omega)
        · rw [if_neg h3]; exact sd (by unfold Fr; omega)
  · rw [if_neg hu]; exact sf (by intro h; unfold Fr at h; unfold Pt at hu; omega)
theorem impl_FractionOk_ev (k : Nat) (hk : 1000002 ≤ k) (u d : Int) : impl_FractionOk.f k u d = some (decide (Fr u d)) := by
  unfold impl_FractionOk.f
  rw [impl_isFraction_ev k hk]; rfl
theorem impl_lowest_ev (k : Nat) (hk : 1000002 ≤ k) (u d : Int) (hu : Pt u) (hd : Pt d) (h : ¬(u = 0 ∧ d = 0)) : impl_lowest.f k u d = some (lowU u d, lowD u d) := by
  unfold impl_lowest.f
  rw [impl_gcd_ev k hk u d hu hd]
  simp only [Option.bind_some]
  have hg := gcd_pos u d h
  have hl := gcd_le_pt u d hu hd
  have e1 : wrap64 (-(Int.gcd u d : Int)) = -(Int.gcd u d : Int) := w64 (by omega)
  unfold lowU lowD sg
  rw [e1]
  simp only [tdiv_w _ _ hu, tdiv_w _ _ hd]
  by_cases h1 : d < 0
  · rw [if_pos h1, if_neg (by omega), if_pos (by omega)]
  · rw [if_neg h1]
    by_cases h2 : d = 0
    · rw [if_pos h2]
      by_cases h3 : u < 0
      · rw [if_pos h3, if_neg (by omega), if_pos (by omega)]
      · rw [if_neg h3, if_neg (by omega), if_neg (by omega)]
    · rw [if_neg h2, if_neg (by omega), if_neg (by omega)]
theorem impl_lowest_over (k : Nat) (hk : 1000002 ≤ k) {u d : Int} (h : Fr u d) : impl_lowest.f k (wrap64 (-d)) u = some (ovU u d, ovD u) := by
  rw [h.wn, impl_lowest_ev k hk _ _ h.pn h.pu h.ne, (low_over h).1, (low_over h).2]
theorem impl_plus_ev (k : Nat) (hk : 1000002 ≤ k) (u d n : Int) (h : Fr u d) (hn : Pt n) : impl_plus.f k u d n = some (pl u d n) := by
  unfold impl_plus.f
  rw [wplus h.pu h.pd hn, impl_isFraction_ev k hk]
  unfold pl
  simp only [Option.bind_some, decide_eq_true_eq]
  split <;> rfl
def Bs (l : List Int) : Prop := l.length ≤ 2000 ∧ ∀ i, 0 ≤ rd l i ∧ rd l i ≤ 255
theorem xor_nn (a b : Int) (ha : 0 ≤ a ∧ a ≤ 4611686018427387903) (hb : 0 ≤ b ∧ b ≤ 4611686018427387903) : 0 ≤ Go.bits .xor .i64 a b := by
  obtain ⟨m, rfl⟩ : ∃ m : Nat, a = m := ⟨a.toNat, by omega⟩
  obtain ⟨n, rfl⟩ : ∃ m : Nat, b = m := ⟨b.toNat, by omega⟩
  have hm : m < 2 ^ 62 := by omega
  have hn : n < 2 ^ 62 := by omega
  have hx := Nat.xor_lt_two_pow hm hn
  have e1 : m % 2 ^ IntKind.i64.bits = m := Nat.mod_eq_of_lt (Nat.lt_trans hm (by decide))
  have e2 : n % 2 ^ IntKind.i64.bits = n := Nat.mod_eq_of_lt (Nat.lt_trans hn (by decide))
  simp only [Go.bits, BitVec.ofInt_natCast, BitVec.toNat_xor, BitVec.toNat_ofNat, e1, e2]
  have e3 := IntKind.wrap_i64 ((m ^^^ n : Nat) : Int)
  rw [e3]
  omega
theorem tmod_rng (a n : Int) (ha : 0 ≤ a) (hn : 1 ≤ n) : 0 ≤ Int.tmod a n ∧ Int.tmod a n < n := ⟨Int.tmod_nonneg n ha, Int.tmod_lt_of_pos a (by omega)⟩
theorem pick_ev (k : Nat) (hk : 1 ≤ k) (l : List Int) (hl : Bs l) (p n : Int) (hp : 0 ≤ p ∧ p ≤ 1000000) (hn : n ≤ 10000000) :
    ∃ r, spec_l20Rd_pick.f k l p n = some (r, p + 1) ∧ 0 ≤ r ∧ (1 ≤ n → r < n) ∧ (n < 1 → r = 0) := by
  obtain ⟨k, rfl⟩ : ∃ m, k = m + 1 := ⟨k - 1, by omega⟩
  unfold spec_l20Rd_pick.f
  have e0 : wrap64 (p + 1) = p + 1 := w64 (by omega)
  have e1 : wrap64 (p + 1 - 1) = p := by rw [w64 (by omega)]; omega
  rw [e0]
  by_cases h1 : n < 1
  · rw [if_pos h1]
    simp only [spec_l20Rd_pick.j0]
    rw [if_pos trivial]
    exact ⟨0, rfl, by omega, by omega, fun _ => rfl⟩
  · rw [if_neg h1]
    simp only [spec_l20Rd_pick.j0]
    by_cases h2 : (l.length : Int) = 0
    · rw [if_pos (by simpa using h2)]
      exact ⟨0, rfl, by omega, by omega, fun _ => rfl⟩
    · rw [if_neg (by simpa using h2), e1]
      have hn0 : ¬ n = 0 := by omega
      by_cases h3 : p < (l.length : Int)
      · rw [if_pos h3, if_pos hp.1, if_neg hn0]
        have hr := hl.2 p
        rw [w64 (by omega : -9223372036854775808 ≤ rd l p ∧ _)]
        have := tmod_rng (rd l p) n (by omega) (by omega)
        exact ⟨_, rfl, this.1, fun _ => this.2, by omega⟩
      · rw [if_neg h3, if_neg h2]
        have t1 := tmod_rng p (l.length : Int) hp.1 (by omega)
        have e7 : wrap64 (wrap64 (p * 7) + 3) = p * 7 + 3 := by rw [w64 (by omega : -9223372036854775808 ≤ p * 7 ∧ _), w64 (by omega)]
        rw [e7]
        have t2 := tmod_rng (p * 7 + 3) (l.length : Int) (by omega) (by omega)
        rw [if_pos t1.1, if_pos t1.2, if_pos t2.1, if_pos t2.2, if_neg hn0]
        have r1 := hl.2 (Int.tmod p (l.length : Int))
        have r2 := hl.2 (Int.tmod (p * 7 + 3) (l.length : Int))
        generalize rd l (Int.tmod p (l.length : Int)) = a at r1 ⊢
        generalize rd l (Int.tmod (p * 7 + 3) (l.length : Int)) = b at r2 ⊢
        have q0 := tdiv_le p (l.length : Int)
        have q1 : 0 ≤ Int.tdiv p (l.length : Int) := Int.tdiv_nonneg hp.1 (by omega)
        generalize Int.tdiv p (l.length : Int) = q at q0 q1 ⊢
        have e2 : wrap64 a = a := w64 (by omega)
        have e3 : wrap64 b = b := w64 (by omega)
        have e4 : wrap64 q = q := w64 (by omega)
        rw [e2, e3, e4]
        have e5 : wrap64 (a * 131) = a * 131 := w64 (by omega)
        have e6 : wrap64 (b * 1117) = b * 1117 := w64 (by omega)
        have e8 : wrap64 (q * 53) = q * 53 := w64 (by omega)
        have e9 : wrap64 (p * 29) = p * 29 := w64 (by omega)
        rw [e5, e6, e8, e9]
        have e10 : wrap64 (a * 131 + b * 1117) = a * 131 + b * 1117 := w64 (by omega)
        rw [e10]
        have e11 : wrap64 (a * 131 + b * 1117 + p * 29) = a * 131 + b * 1117 + p * 29 := w64 (by omega)
        rw [e11]
        have e12 : wrap64 (a * 131 + b * 1117 + p * 29 + q * 53) = a * 131 + b * 1117 + p * 29 + q * 53 := w64 (by omega)
        rw [e12]
        have hX : 0 ≤ a * 131 + b * 1117 + p * 29 + q * 53 ∧ a * 131 + b * 1117 + p * 29 + q * 53 ≤ 4611686018427387903 := by omega
        generalize a * 131 + b * 1117 + p * 29 + q * 53 = X at hX ⊢
        have q2 := tdiv_le X 64
        have q3 : 0 ≤ Int.tdiv X 64 := Int.tdiv_nonneg hX.1 (by omega)
        have e13 : wrap64 (Int.tdiv X 64) = Int.tdiv X 64 := w64 (by omega)
        rw [e13]
        have := tmod_rng _ n (xor_nn X (Int.tdiv X 64) hX (by omega)) (by omega)
        exact ⟨_, rfl, this.1, fun _ => this.2, by omega⟩
theorem odd_ev (k : Nat) (hk : 1 ≤ k) (l : List Int) (hl : Bs l) (p n : Int) (hp : 0 ≤ p ∧ p ≤ 1000000) (hn : n ≤ 10000000) :
    ∃ b p', spec_l20Rd_odd.f k l p n = some (b, p') ∧ p ≤ p' ∧ p' ≤ p + 1 := by
  unfold spec_l20Rd_odd.f
  by_cases h : n > 0
  · rw [if_pos h]
    obtain ⟨r, e, _⟩ := pick_ev k hk l hl p n hp hn
    rw [e]
    exact ⟨_, _, rfl, by omega, by omega⟩
  · rw [if_neg h]; exact ⟨_, _, rfl, by omega, by omega⟩
theorem open_ev (l : List Int) (hw : ∀ x ∈ l, (Lit.int .u8 x).wf = true) : ∃ m, spec_l20Open.f l = some (m, 0) ∧ Bs m := by
  have key : ∀ m : List Int, m.length ≤ 2000 → (∀ x ∈ m, x ∈ l) → Bs m := by
    intro m hm hs
    refine ⟨hm, fun i => ?_⟩
    unfold rd
    by_cases h : i.toNat < m.length
    · have : m.getD i.toNat 0 = m[i.toNat] := by simp [h]
      rw [this]
      have h1 := hw _ (hs _ (List.getElem_mem h))
      simp [Lit.wf, IntKind.min, IntKind.max, IntKind.signed, IntKind.bits] at h1
      omega
    · have : m.getD i.toNat 0 = 0 := by simp [Nat.le_of_not_lt h]
      rw [this]; omega
  unfold spec_l20Open.f
  by_cases h : (l.length : Int) > 2000
  · rw [if_pos h, if_pos (by omega)]
    exact ⟨_, rfl, key _ (by simp; omega) (fun x hx => List.mem_of_mem_take hx)⟩
  · rw [if_neg h]
    exact ⟨_, rfl, key _ (by omega) (fun x hx => hx)⟩
theorem alive_ev (k : Nat) (hk : 1000002 ≤ k) : laws_alive.f k = some true := by
  unfold laws_alive.f
  simp only [impl_FractionOk_ev k hk, Option.bind_some]
  decide
theorem impl_EndsFor_ev (k : Nat) (hk : 1000002 ≤ k) (u d : Int) : impl_EndsFor.f k u d = some (if Fr u d then endsL u d else []) := by
  unfold impl_EndsFor.f impl_kindOf.f endsL kd
  simp only [impl_isFraction_ev k hk, Option.bind_some, decide_eq_true_eq]
  by_cases h : Fr u d
  · rw [if_pos h, if_pos h]
    by_cases h1 : Int.tmod u 2 = 0
    · rw [if_pos h1, if_pos h1]; rfl
    · rw [if_neg h1, if_neg h1]
      by_cases h2 : Int.tmod d 2 = 0
      · rw [if_pos h2, if_pos h2]; rfl
      · rw [if_neg h2, if_neg h2]; rfl
  · rw [if_neg h, if_neg h]
theorem laws_sameInts_l0 (a b : List Int) (hl : a.length = b.length) (hn : a.length ≤ 1048576) (d : Nat) : ∀ (k : Nat) (i : Int), 0 ≤ i → i + d = a.length → d < k → laws_sameInts.l0 k a b i = some (decide (a.drop i.toNat = b.drop i.toNat)) := by
  induction d with
  | zero =>
    intro k i h0 hd hk
    obtain ⟨k, rfl⟩ : ∃ m, k = m + 1 := ⟨k - 1, by omega⟩
    simp only [laws_sameInts.l0]
    rw [if_neg (by omega)]
    refine st ?_
    rw [List.drop_eq_nil_of_le (by omega), List.drop_eq_nil_of_le (by omega)]
  | succ d ih =>
    intro k i h0 hd hk
    obtain ⟨k, rfl⟩ : ∃ m, k = m + 1 := ⟨k - 1, by omega⟩
    simp only [laws_sameInts.l0]
    have h1 : i.toNat < a.length := by omega
    have h2 : i.toNat < b.length := by omega
    rw [if_pos (by omega), if_pos h0, if_pos (by omega), w64 (by omega), ih k (i + 1) (by omega) (by omega) (by omega)]
    have e : (i + 1).toNat = i.toNat + 1 := by omega
    have ra : rd a i = a[i.toNat] := by unfold rd; simp [h1]
    have rb : rd b i = b[i.toNat] := by unfold rd; simp [h2]
    rw [e, ra, rb, List.drop_eq_getElem_cons h1, List.drop_eq_getElem_cons h2]
    by_cases hc : a[i.toNat] = b[i.toNat]
    · rw [if_pos hc]; exact sd (by rw [List.cons.injEq]; exact ⟨fun h => ⟨hc, h⟩, And.right⟩)
    · rw [if_neg hc]; exact sf (by rw [List.cons.injEq]; exact fun h => hc h.1)
theorem laws_sameInts_ev (k : Nat) (a b : List Int) (hk : a.length < k) (hn : a.length ≤ 1048576) : laws_sameInts.f k a b = some (decide (a = b)) := by
  unfold laws_sameInts.f
  by_cases h : a.length = b.length
  · rw [if_pos (by omega), laws_sameInts_l0 a b h hn a.length k 0 (by omega) (by omega) hk]; simp
  · rw [if_neg (by omega)]; exact sf (fun e => h (by rw [e]))
theorem spec_DanceOk_l0 (s : ByteArray) (hn : s.size ≤ 1000000000) (d : Nat) : ∀ (k : Nat) (i : Int), 0 ≤ i → i + d = s.size → d < k → spec_DanceOk.l0 k s i = some (decide (dok (s.data.toList.drop i.toNat) = true ∧ s.size ≤ 40)) := by
  have hsz : s.data.toList.length = s.size := by simp
  induction d with
  | zero =>
    intro k i h0 hd hk
    obtain ⟨k, rfl⟩ : ∃ m, k = m + 1 := ⟨k - 1, by omega⟩
    simp only [spec_DanceOk.l0]
    rw [if_neg (by omega), List.drop_eq_nil_of_le (by omega)]
    exact sd ⟨fun x => ⟨rfl, by omega⟩, fun x => by omega⟩
  | succ d ih =>
    intro k i h0 hd hk
    obtain ⟨k, rfl⟩ : ∃ m, k = m + 1 := ⟨k - 1, by omega⟩
    simp only [spec_DanceOk.l0]
    have h1 : i.toNat < s.size := by omega
    have h2 : i.toNat < s.data.toList.length := by omega
    rw [if_pos (by omega), if_pos h0, w64 (by omega), ih k (i + 1) (by omega) (by omega) (by omega)]
    have e : (i + 1).toNat = i.toNat + 1 := by omega
    rw [e, bt_get s i h0 h1, List.drop_eq_getElem_cons h2]
    generalize s.data.toList[i.toNat] = c
    have hm := mv_iff c
    have hc : dok (c :: List.drop (i.toNat + 1) s.data.toList) = (mv c && dok (List.drop (i.toNat + 1) s.data.toList)) := rfl
    rw [hc]
    by_cases c1 : (c.toNat : Int) = 84
    · rw [if_pos c1]; have : mv c = true := hm.2 (Or.inl c1); rw [this, Bool.true_and]
    · rw [if_neg c1]
      by_cases c2 : (c.toNat : Int) = 116
      · rw [if_pos c2]; have : mv c = true := hm.2 (Or.inr (Or.inl c2)); rw [this, Bool.true_and]
      · rw [if_neg c2]
        by_cases c3 : (c.toNat : Int) = 82
        · rw [if_pos c3]; have : mv c = true := hm.2 (Or.inr (Or.inr c3)); rw [this, Bool.true_and]
        · rw [if_neg c3]
          have : mv c = false := by
            rcases Bool.eq_false_or_eq_true (mv c) with h | h
            · have := hm.1 h; omega
            · exact h
          rw [this, Bool.false_and]
          exact sf (by simp)
theorem spec_DanceOk_ev (k : Nat) (s : ByteArray) (hk : s.size < k) (hn : s.size ≤ 1000000000) : spec_DanceOk.f k s = some (decide (Dn s)) := by
  unfold spec_DanceOk.f
  rw [spec_DanceOk_l0 s hn s.size k 0 (by omega) (by omega) hk]
  rfl
theorem rdOf_sz (L : List ByteArray) (h : ∀ x ∈ L, x.size ≤ 50) (r : Int) : (rdOf ByteArray.empty L r).size ≤ 50 := by
  unfold rdOf
  by_cases hr : r.toNat < L.length
  · have : L.getD r.toNat ByteArray.empty = L[r.toNat] := by simp [hr]
    rw [this]
    exact h _ (List.getElem_mem hr)
  · have : L.getD r.toNat ByteArray.empty = ByteArray.empty := by simp [Nat.le_of_not_lt hr]
    rw [this]
    decide
theorem dance_ev (k : Nat) (l : List Int) (hl : Bs l) (p a n : Int) (hk : a.toNat + 4 < k) (hp : 0 ≤ p ∧ p ≤ 900000) (ha : 0 ≤ a ∧ a ≤ 1000) (hn : n ≤ 10000000) :
    ∃ s p', spec_l20Dance.f k l p a n = some (s, p') ∧ p ≤ p' ∧ p' ≤ p + a + 5 ∧ s.size ≤ 50 * a.toNat + 50 := by
  have j : ∀ (d : Nat) (k : Nat) (s : ByteArray) (p : Int), d + 2 < k → 0 ≤ p → p + d ≤ 901010 → s.size + 50 * d ≤ 100000 → ∃ t p', spec_l20Dance.l0 k n s (d : Int) l p = some (t, p') ∧ p ≤ p' ∧ p' ≤ p + d + 2 ∧ t.size ≤ s.size + 50 * d + 50 := by
    intro d
    induction d with
    | zero =>
      intro k s p hk h0 h1 hs
      obtain ⟨k, rfl⟩ : ∃ m, k = m + 1 := ⟨k - 1, by omega⟩
      simp only [spec_l20Dance.l0]
      rw [if_neg (by omega)]
      obtain ⟨b, p', e, h2, h3⟩ := odd_ev k (by omega) l hl p n (by omega) hn
      rw [e]
      simp only [Option.bind_some]
      by_cases hb : b = true
      · rw [if_pos hb]
        obtain ⟨r, e2, h4, h5, _⟩ := pick_ev k (by omega) l hl p' 3 (by omega) (by omega)
        rw [e2]
        simp only [Option.bind_some]
        have h6 := h5 (by omega)
        rw [if_pos h4, if_pos (by simp only [List.length_cons, List.length_nil]; omega)]
        split
        · exact ⟨_, _, rfl, by omega, by omega, by rw [ByteArray.size_append]; exact Nat.le_trans (Nat.add_le_add_left (rdOf_sz _ (by decide) r) _) (by omega)⟩
        · rename_i hc
          exact absurd (Nat.le_trans (Nat.add_le_add_left (rdOf_sz _ (by decide) r) _) (by omega)) hc
      · rw [if_neg hb]
        exact ⟨_, _, rfl, by omega, by omega, by omega⟩
    | succ d ih =>
      intro k s p hk h0 h1 hs
      obtain ⟨k, rfl⟩ : ∃ m, k = m + 1 := ⟨k - 1, by omega⟩
      simp only [spec_l20Dance.l0]
      rw [if_pos (by omega)]
      simp only [Option.bind_some]
      obtain ⟨r, e2, h4, h5, _⟩ := pick_ev k (by omega) l hl p 6 (by omega) (by omega)
      rw [e2]
      simp only [Option.bind_some]
      have h6 := h5 (by omega)
      rw [if_pos h4, if_pos (by simp only [List.length_cons, List.length_nil]; omega), if_pos (Nat.le_trans (Nat.add_le_add_left (rdOf_sz _ (by decide) r) _) (by omega)), w64 (by omega)]
      have h7 := rdOf_sz [(⟨#[84]⟩ : ByteArray), (⟨#[84]⟩ : ByteArray), (⟨#[82]⟩ : ByteArray), (⟨#[116]⟩ : ByteArray), (⟨#[82]⟩ : ByteArray), (⟨#[84]⟩ : ByteArray)] (by decide) r
      have e3 : ((d + 1 : Nat) : Int) - 1 = (d : Int) := by omega
      rw [e3]
      obtain ⟨t, p', e4, h8, h9, h10⟩ := ih k (s ++ rdOf ByteArray.empty [(⟨#[84]⟩ : ByteArray), (⟨#[84]⟩ : ByteArray), (⟨#[82]⟩ : ByteArray), (⟨#[116]⟩ : ByteArray), (⟨#[82]⟩ : ByteArray), (⟨#[84]⟩ : ByteArray)] r) (p + 1) (by omega) (by omega) (by omega) (by rw [ByteArray.size_append]; omega)
      rw [ByteArray.size_append] at h10
      exact ⟨t, p', e4, by omega, by omega, by omega⟩
  unfold spec_l20Dance.f
  rw [w64 (by omega)]
  obtain ⟨r, e1, h1, h2, _⟩ := pick_ev k (by omega) l hl p (a + 1) (by omega) (by omega)
  rw [e1]
  simp only [Option.bind_some]
  have h3 := h2 (by omega)
  obtain ⟨d, rfl⟩ : ∃ d : Nat, r = d := ⟨r.toNat, by omega⟩
  obtain ⟨t, p', e4, h8, h9, h10⟩ := j d k (⟨#[]⟩ : ByteArray) (p + 1) (by omega) (by omega) (by omega) (by show 0 + 50 * d ≤ 100000; omega)
  have e0 : (⟨#[]⟩ : ByteArray).size = 0 := rfl
  rw [e0] at h10
  exact ⟨t, p', e4, by omega, by omega, by omega⟩
def ovr (f : Int × Int) : Int × Int := (ovU f.1 f.2, ovD f.1)
def plusO (f : Int × Int) (n : Int) : Option (Int × Int) := if Fr (f.1 + n * f.2) f.2 then some (f.1 + n * f.2, f.2) else none
def mvO (f : Int × Int) (c : UInt8) : Option (Int × Int) := if c = 84 then plusO f 1 else if c = 116 then plusO f (-1) else some (ovr f)
def dnc : (Int × Int) → List UInt8 → Option (Int × Int)
  | f, [] => some f
  | f, c :: l => (mvO f c).bind fun g => dnc g l
theorem plusO_fr {f g : Int × Int} {n : Int} (h : plusO f n = some g) : Fr g.1 g.2 ∧ g = (f.1 + n * f.2, f.2) := by
  unfold plusO at h
  split at h
  · have e := Option.some.inj h
    rw [← e]
    exact ⟨by assumption, rfl⟩
  · cases h
theorem mvO_fr {f g : Int × Int} {c : UInt8} (hf : Fr f.1 f.2) (h : mvO f c = some g) : Fr g.1 g.2 := by
  unfold mvO at h
  split at h
  · exact (plusO_fr h).1
  · split at h
    · exact (plusO_fr h).1
    · have e := Option.some.inj h
      rw [← e]
      exact hf.over
theorem dnc_fr (l : List UInt8) : ∀ {f g : Int × Int}, Fr f.1 f.2 → dnc f l = some g → Fr g.1 g.2 := by
  induction l with
  | nil => intro f g hf h; have e : f = g := Option.some.inj h; rw [← e]; exact hf
  | cons c l ih =>
    intro f g hf h
    obtain ⟨x, h1, h2⟩ := Option.bind_eq_some_iff.mp (show (mvO f c).bind (fun g => dnc g l) = some g from h)
    exact ih (mvO_fr hf h1) h2
theorem mv_cases {c : UInt8} (h : mv c = true) : c = 84 ∨ c = 116 ∨ c = 82 := by
  unfold mv at h
  simp only [Bool.or_eq_true, beq_iff_eq] at h
  rcases h with (h | h) | h
  · exact Or.inl h
  · exact Or.inr (Or.inl h)
  · exact Or.inr (Or.inr h)
theorem mvO_T (f : Int × Int) : mvO f 84 = plusO f 1 := by unfold mvO; rw [if_pos rfl]
theorem mvO_t (f : Int × Int) : mvO f 116 = plusO f (-1) := by unfold mvO; rw [if_neg (by decide), if_pos rfl]
theorem mvO_R (f : Int × Int) : mvO f 82 = some (ovr f) := by unfold mvO; rw [if_neg (by decide), if_neg (by decide)]
theorem dok_cons (c : UInt8) (l : List UInt8) : dok (c :: l) = (mv c && dok l) := rfl
theorem impl_areMoves_ev (s : ByteArray) (hn : s.size ≤ 1000000000) : impl_areMoves.f s = some (dok s.data.toList) := by
  unfold impl_areMoves.f; rw [if_pos (by omega)]; rfl
theorem impl_isDance_ev (s : ByteArray) : impl_isDance.f s = some (decide (Dn s)) := by
  unfold impl_isDance.f
  by_cases h : (s.size : Int) ≤ 40
  · rw [if_pos h, impl_areMoves_ev s (by omega)]
    show some (dok s.data.toList) = _
    congr 1
    by_cases hd : dok s.data.toList = true
    · rw [hd, decide_eq_true (show Dn s from ⟨hd, by omega⟩)]
    · rw [decide_eq_false (show ¬ Dn s from fun x => hd x.1)]; simpa using hd
  · rw [if_neg h, decide_eq_false (fun x => h (by have := x.2; omega))]
theorem impl_DanceOk_ev (s : ByteArray) : impl_DanceOk.f s = some (decide (Dn s)) := by unfold impl_DanceOk.f; rw [impl_isDance_ev]; rfl
def dR (o : Option (Int × Int)) : Int × Int × Bool := match o with | some f => (f.1, f.2, true) | none => (0, 0, false)
theorem pl_plusO (u d n : Int) : pl u d n = dR (plusO (u, d) n) := by
  unfold pl plusO
  by_cases h : Fr (u + n * d) d
  · rw [if_pos h, if_pos h]; rfl
  · rw [if_neg h, if_neg h]; rfl
theorem pt1 : Pt 1 ∧ Pt (-1) := by unfold Pt; omega
theorem mvO_84 (f : Int × Int) (c : UInt8) (h : (c.toNat : Int) = 84) : mvO f c = plusO f 1 := by rw [(u8_eq c 84 (by omega)).1 h]; exact mvO_T f
theorem mvO_116 (f : Int × Int) (c : UInt8) (h : (c.toNat : Int) = 116) : mvO f c = plusO f (-1) := by rw [(u8_eq c 116 (by omega)).1 h]; exact mvO_t f
theorem mvO_else (f : Int × Int) (c : UInt8) (h : ¬(c.toNat : Int) = 84) (h2 : ¬(c.toNat : Int) = 116) : mvO f c = some (ovr f) := by
  have g1 : ¬ c = 84 := fun x => h ((u8_eq c 84 (by omega)).2 x)
  have g2 : ¬ c = 116 := fun x => h2 ((u8_eq c 116 (by omega)).2 x)
  unfold mvO
  rw [if_neg g1, if_neg g2]
theorem impl_danced_l0 (s : ByteArray) (h40 : s.size ≤ 2000) (d : Nat) : ∀ (k : Nat) (i : Nat) (f : Int × Int), d + 1000010 ≤ k → i + d = s.size → Fr f.1 f.2 → impl_danced.l0 k s (s.size : Int) (i : Int) f.1 f.2 = some (dR (dnc f (s.data.toList.drop i))) := by
  have hsz : s.data.toList.length = s.size := by simp
  induction d with
  | zero =>
    intro k i f hk hd hf
    obtain ⟨k, rfl⟩ : ∃ m, k = m + 1 := ⟨k - 1, by omega⟩
    simp only [impl_danced.l0]
    rw [if_neg (by omega), List.drop_eq_nil_of_le (by omega)]; rfl
  | succ d ih =>
    intro k i f hk hd hf
    obtain ⟨k, rfl⟩ : ∃ m, k = m + 1 := ⟨k - 1, by omega⟩
    have hi : i < s.data.toList.length := by omega
    have hb' : bt s (i : Int) = (s.data.toList[i].toNat : Int) := bt_get s (i : Int) (by omega) (by omega)
    have e1 : ((i : Int) + 1) = ((i + 1 : Nat) : Int) := by omega
    simp only [impl_danced.l0]
    rw [if_pos (by omega), if_pos (by omega), if_pos (by omega), w64 (by omega), hb', e1, List.drop_eq_getElem_cons hi]
    generalize s.data.toList[i] = c
    show _ = some (dR ((mvO f c).bind fun g => dnc g (List.drop (i + 1) s.data.toList)))
    have tw : ∀ n : Int, Pt n → mvO f c = plusO f n → ((impl_plus.f k f.1 f.2 n).bind fun bt149 => (if bt149.2.2 = true then (impl_danced.l0 k s (s.size : Int) ((i + 1 : Nat) : Int) bt149.1 bt149.2.1) else (some (0, 0, false)))) = some (dR ((mvO f c).bind fun g => dnc g (List.drop (i + 1) s.data.toList))) := by
      intro n hn hm
      rw [impl_plus_ev k (by omega) f.1 f.2 n hf hn, pl_plusO, hm]
      cases hp : plusO (f.1, f.2) n with
      | none => rfl
      | some g => exact ih k (i + 1) g (by omega) (by omega) (plusO_fr hp).1
    by_cases c1 : (c.toNat : Int) = 84
    · rw [if_pos c1]; exact tw 1 pt1.1 (mvO_84 f c c1)
    · rw [if_neg c1]
      by_cases c2 : (c.toNat : Int) = 116
      · rw [if_pos c2]; exact tw (-1) pt1.2 (mvO_116 f c c2)
      · rw [if_neg c2, impl_lowest_over k (by omega) hf, mvO_else f c c1 c2]
        exact ih k (i + 1) (ovr f) (by omega) (by omega) hf.over
theorem impl_danced_ev (k : Nat) (hk : 1002100 ≤ k) (u d : Int) (s : ByteArray) (h40 : s.size ≤ 2000) (hf : Fr u d) : impl_danced.f k u d s = some (dR (dnc (u, d) s.data.toList)) :=
  impl_danced_l0 s h40 s.size k 0 (u, d) (by omega) (by omega) hf
theorem impl_DancedOf_ev (k : Nat) (hk : 1002100 ≤ k) (s : ByteArray) : impl_DancedOf.f k s = some (if Dn s then dR (dnc (0, 1) s.data.toList) else (0, 0, false)) := by
  unfold impl_DancedOf.f
  rw [impl_isDance_ev]
  simp only [Option.bind_some, decide_eq_true_eq]
  by_cases h : Dn s
  · rw [if_pos h, if_pos h, impl_danced_ev k hk 0 1 s (by have := h.2; omega) (by decide)]; rfl
  · rw [if_neg h, if_neg h]
def kmv (q : Int) (c : UInt8) : Int := if c = 82 then (if q = 0 then 1 else if q = 1 then 0 else 2) else (if q = 0 then 2 else if q = 1 then 1 else 0)
def eK (q : Int) : List Int := if q = 0 then [1, 0, 3, 2] else if q = 1 then [2, 3, 0, 1] else [3, 2, 1, 0]
theorem kmv_rng (q : Int) (c : UInt8) : kmv q c = 0 ∨ kmv q c = 1 ∨ kmv q c = 2 := by
  unfold kmv
  repeat' split
  all_goals simp
theorem eK_ends (u d : Int) : eK (kd u d) = endsL u d := rfl
theorem kd_minus {u d : Int} (h : Fr (u - d) d) : kd (u - d) d = if kd u d = 0 then 2 else if kd u d = 1 then 1 else 0 := by
  have e := kd_plus h
  have e2 : u - d + d = u := by omega
  rw [e2] at e
  rcases kd_rng (u - d) d with q | q | q <;> rw [e, q] <;> decide
theorem mvO_kd {f g : Int × Int} {c : UInt8} (hf : Fr f.1 f.2) (hc : mv c = true) (h : mvO f c = some g) : kd g.1 g.2 = kmv (kd f.1 f.2) c := by
  rcases mv_cases hc with rfl | rfl | rfl
  · rw [mvO_T] at h
    have e := (plusO_fr h).2
    rw [Int.one_mul] at e
    rw [e]
    exact kd_plus hf
  · rw [mvO_t] at h
    obtain ⟨h1, e⟩ := plusO_fr h
    have e3 : f.1 + -1 * f.2 = f.1 - f.2 := by omega
    rw [e3] at e
    rw [e] at h1 ⊢
    exact kd_minus h1
  · rw [mvO_R] at h
    rw [← Option.some.inj h]
    exact kd_over hf
theorem dnc_kd (l : List UInt8) : ∀ {f g : Int × Int}, Fr f.1 f.2 → dok l = true → dnc f l = some g → kd g.1 g.2 = l.foldl kmv (kd f.1 f.2) := by
  induction l with
  | nil => intro f g hf hd h; have e : f = g := Option.some.inj h; rw [← e]; rfl
  | cons c l ih =>
    intro f g hf hd h
    have hd' : mv c = true ∧ dok l = true := by rw [dok_cons] at hd; simpa using hd
    obtain ⟨x, h1, h2⟩ := Option.bind_eq_some_iff.mp (show (mvO f c).bind (fun g => dnc g l) = some g from h)
    rw [ih (mvO_fr hf h1) hd'.2 h2, mvO_kd hf hd'.1 h1]
    rfl
def kE (s : ByteArray) : Int := s.data.toList.foldl kmv 0
theorem foldl_kmv_rng (l : List UInt8) : ∀ q : Int, (q = 0 ∨ q = 1 ∨ q = 2) → (l.foldl kmv q = 0 ∨ l.foldl kmv q = 1 ∨ l.foldl kmv q = 2) := by
  induction l with
  | nil => intro q h; exact h
  | cons c l ih => intro q _; exact ih _ (kmv_rng q c)
theorem pkL1 (n : Nat) (a b c d : Int) (r : List Int) (h : impl_EndsAfter.l1 40 [] 0 a b c d = some r) : impl_EndsAfter.l1 (40 + n) [] 0 a b c d = some r := by
  induction n with
  | zero => exact h
  | succ n ih => exact (impl_EndsAfter.mono_l (40 + n)).2.1 _ _ _ _ _ _ r ih
def cpt (q a b c d : Int) : Prop := (q = 0 ∧ ((a = 0 ∧ b = 0 ∧ c = 1 ∧ d = 1) ∨ (a = 1 ∧ b = 1 ∧ c = 0 ∧ d = 0))) ∨ (q = 1 ∧ ((a = 0 ∧ b = 1 ∧ c = 0 ∧ d = 1) ∨ (a = 1 ∧ b = 0 ∧ c = 1 ∧ d = 0))) ∨ (q = 2 ∧ ((a = 0 ∧ b = 1 ∧ c = 1 ∧ d = 0) ∨ (a = 1 ∧ b = 0 ∧ c = 0 ∧ d = 1)))
theorem cpt_l1 {q a b c d : Int} (h : cpt q a b c d) (k : Nat) (hk : 40 ≤ k) : impl_EndsAfter.l1 k [] 0 a b c d = some (eK q) := by
  obtain ⟨n, rfl⟩ : ∃ n, k = 40 + n := ⟨k - 40, by omega⟩
  rcases h with ⟨rfl, ⟨rfl, rfl, rfl, rfl⟩ | ⟨rfl, rfl, rfl, rfl⟩⟩ | ⟨rfl, ⟨rfl, rfl, rfl, rfl⟩ | ⟨rfl, rfl, rfl, rfl⟩⟩ | ⟨rfl, ⟨rfl, rfl, rfl, rfl⟩ | ⟨rfl, rfl, rfl, rfl⟩⟩
  all_goals exact pkL1 n _ _ _ _ _ (by decide +kernel)
theorem cpt_R {q a b c d : Int} {x : UInt8} (hx : x = 82) (h : cpt q a b c d) : cpt (kmv q x) c a d b := by
  subst hx
  rcases h with ⟨rfl, ⟨rfl, rfl, rfl, rfl⟩ | ⟨rfl, rfl, rfl, rfl⟩⟩ | ⟨rfl, ⟨rfl, rfl, rfl, rfl⟩ | ⟨rfl, rfl, rfl, rfl⟩⟩ | ⟨rfl, ⟨rfl, rfl, rfl, rfl⟩ | ⟨rfl, rfl, rfl, rfl⟩⟩
  all_goals (simp [cpt, kmv])
theorem cpt_T {q a b c d : Int} {x : UInt8} (hx : ¬ x = 82) (h : cpt q a b c d) : cpt (kmv q x) a d c b := by
  unfold kmv
  rw [if_neg hx]
  rcases h with ⟨rfl, ⟨rfl, rfl, rfl, rfl⟩ | ⟨rfl, rfl, rfl, rfl⟩⟩ | ⟨rfl, ⟨rfl, rfl, rfl, rfl⟩ | ⟨rfl, rfl, rfl, rfl⟩⟩ | ⟨rfl, ⟨rfl, rfl, rfl, rfl⟩ | ⟨rfl, rfl, rfl, rfl⟩⟩
  all_goals (simp [cpt])
theorem impl_EndsAfter_l0 (s : ByteArray) (h40 : s.size ≤ 40) (e : Nat) : ∀ (k : Nat) (i : Nat) (q a b c d : Int), e + 50 ≤ k → i + e = s.size → cpt q a b c d → impl_EndsAfter.l0 k s (s.size : Int) (i : Int) a b c d = some (eK ((s.data.toList.drop i).foldl kmv q)) := by
  have hsz : s.data.toList.length = s.size := by simp
  induction e with
  | zero =>
    intro k i q a b c d hk hd hc
    obtain ⟨k, rfl⟩ : ∃ m, k = m + 1 := ⟨k - 1, by omega⟩
    rw [impl_EndsAfter.l0.eq_2, if_neg (by omega), List.drop_eq_nil_of_le (by omega)]
    exact cpt_l1 hc k (by omega)
  | succ e ih =>
    intro k i q a b c d hk hd hc
    obtain ⟨k, rfl⟩ : ∃ m, k = m + 1 := ⟨k - 1, by omega⟩
    have hi : i < s.data.toList.length := by omega
    have hb' : bt s (i : Int) = (s.data.toList[i].toNat : Int) := bt_get s (i : Int) (by omega) (by omega)
    have e1 : ((i : Int) + 1) = ((i + 1 : Nat) : Int) := by omega
    rw [impl_EndsAfter.l0.eq_2, if_pos (by omega), if_pos (by omega), if_pos (by omega), w64 (by omega), hb', e1, List.drop_eq_getElem_cons hi]
    generalize s.data.toList[i] = x
    have hx : ((x.toNat : Int) = 82) ↔ x = 82 := u8_eq x 82 (by omega)
    show _ = some (eK ((List.drop (i + 1) s.data.toList).foldl kmv (kmv q x)))
    by_cases h : x = 82
    · rw [if_pos (hx.2 h)]
      exact ih k (i + 1) _ _ _ _ _ (by omega) (by omega) (cpt_R h hc)
    · rw [if_neg (fun y => h (hx.1 y))]
      exact ih k (i + 1) _ _ _ _ _ (by omega) (by omega) (cpt_T h hc)
theorem impl_EndsAfter_ev (k : Nat) (s : ByteArray) (hk : 100 ≤ k) : impl_EndsAfter.f k s = some (if Dn s then eK (kE s) else []) := by
  unfold impl_EndsAfter.f
  rw [impl_isDance_ev]
  simp only [Option.bind_some, decide_eq_true_eq]
  by_cases h : Dn s
  · have h40 := h.2
    rw [if_pos h, if_pos h]
    exact impl_EndsAfter_l0 s (by omega) s.size k 0 0 0 0 1 1 (by omega) (by omega) (by simp [cpt])
  · rw [if_neg h, if_neg h]
theorem l6R : spec_l6Swap.f 82 0 = some 1 ∧ spec_l6Swap.f 82 1 = some 3 ∧ spec_l6Swap.f 82 2 = some 0 ∧ spec_l6Swap.f 82 3 = some 2 := by decide
theorem l6T (b : Int) (h : ¬ b = 82) : spec_l6Swap.f b 0 = some 0 ∧ spec_l6Swap.f b 1 = some 3 ∧ spec_l6Swap.f b 2 = some 2 ∧ spec_l6Swap.f b 3 = some 1 := by
  unfold spec_l6Swap.f
  simp only [if_neg h]
  decide
theorem w_lit : wrap64 (0 + 1) = 1 ∧ wrap64 (1 + 1) = 2 ∧ wrap64 (2 + 1) = 3 ∧ wrap64 (3 + 1) = 4 := by refine ⟨?_, ?_, ?_, ?_⟩ <;> (unfold wrap64; omega)
theorem spec_EndsAfter_l1 (s : ByteArray) (i : Nat) (x : UInt8) (hi : i < s.size) (h40 : s.size ≤ 40) (hx : bt s (i : Int) = (x.toNat : Int)) (k : Nat) (q : Int) (hq : q = 0 ∨ q = 1 ∨ q = 2) :
    spec_EndsAfter.l1 (k + 5) s (eK q) (i : Int) (List.replicate 4 0) 0 = spec_EndsAfter.l0 k s (eK (kmv q x)) ((i + 1 : Nat) : Int) := by
  have hx' : ((x.toNat : Int) = 82) ↔ x = 82 := u8_eq x 82 (by omega)
  have i1 : (0 : Int) ≤ (i : Int) := by omega
  have i2 : (i : Int) < (s.size : Int) := by omega
  have e1 : wrap64 ((i : Int) + 1) = ((i + 1 : Nat) : Int) := by rw [w64 (by omega)]; omega
  obtain ⟨w1, w2, w3, w4⟩ := w_lit
  by_cases h : x = 82
  · have hb : bt s (i : Int) = 82 := by rw [hx]; exact hx'.2 h
    obtain ⟨a0, a1, a2, a3⟩ := l6R
    subst h
    rcases hq with rfl | rfl | rfl
    · have r0 : rd (eK 0) 0 = 1 ∧ rd (eK 0) 1 = 0 ∧ rd (eK 0) 2 = 3 ∧ rd (eK 0) 3 = 2 ∧ (eK 0).length = 4 := by decide
      obtain ⟨r0, r1, r2, r3, r4⟩ := r0
      rw [spec_EndsAfter.l1.eq_2, if_pos (by decide), if_pos i1, if_pos i2, hb, a0, Option.bind_some, if_pos (by decide), if_pos (by rw [r4]; decide), r0, a1, Option.bind_some, if_pos (by decide), if_pos (by decide), w1]
      rw [spec_EndsAfter.l1.eq_2, if_pos (by decide), if_pos i1, if_pos i2, hb, a1, Option.bind_some, if_pos (by decide), if_pos (by rw [r4]; decide), r1, a0, Option.bind_some, if_pos (by decide), if_pos (by decide), w2]
      rw [spec_EndsAfter.l1.eq_2, if_pos (by decide), if_pos i1, if_pos i2, hb, a2, Option.bind_some, if_pos (by decide), if_pos (by rw [r4]; decide), r2, a3, Option.bind_some, if_pos (by decide), if_pos (by decide), w3]
      rw [spec_EndsAfter.l1.eq_2, if_pos (by decide), if_pos i1, if_pos i2, hb, a3, Option.bind_some, if_pos (by decide), if_pos (by rw [r4]; decide), r3, a2, Option.bind_some, if_pos (by decide), if_pos (by decide), w4]
      rw [spec_EndsAfter.l1.eq_2, if_neg (by decide), e1]
      rfl
    · have r0 : rd (eK 1) 0 = 2 ∧ rd (eK 1) 1 = 3 ∧ rd (eK 1) 2 = 0 ∧ rd (eK 1) 3 = 1 ∧ (eK 1).length = 4 := by decide
      obtain ⟨r0, r1, r2, r3, r4⟩ := r0
      rw [spec_EndsAfter.l1.eq_2, if_pos (by decide), if_pos i1, if_pos i2, hb, a0, Option.bind_some, if_pos (by decide), if_pos (by rw [r4]; decide), r0, a2, Option.bind_some, if_pos (by decide), if_pos (by decide), w1]
      rw [spec_EndsAfter.l1.eq_2, if_pos (by decide), if_pos i1, if_pos i2, hb, a1, Option.bind_some, if_pos (by decide), if_pos (by rw [r4]; decide), r1, a3, Option.bind_some, if_pos (by decide), if_pos (by decide), w2]
      rw [spec_EndsAfter.l1.eq_2, if_pos (by decide), if_pos i1, if_pos i2, hb, a2, Option.bind_some, if_pos (by decide), if_pos (by rw [r4]; decide), r2, a0, Option.bind_some, if_pos (by decide), if_pos (by decide), w3]
      rw [spec_EndsAfter.l1.eq_2, if_pos (by decide), if_pos i1, if_pos i2, hb, a3, Option.bind_some, if_pos (by decide), if_pos (by rw [r4]; decide), r3, a1, Option.bind_some, if_pos (by decide), if_pos (by decide), w4]
      rw [spec_EndsAfter.l1.eq_2, if_neg (by decide), e1]
      rfl
    · have r0 : rd (eK 2) 0 = 3 ∧ rd (eK 2) 1 = 2 ∧ rd (eK 2) 2 = 1 ∧ rd (eK 2) 3 = 0 ∧ (eK 2).length = 4 := by decide
      obtain ⟨r0, r1, r2, r3, r4⟩ := r0
      rw [spec_EndsAfter.l1.eq_2, if_pos (by decide), if_pos i1, if_pos i2, hb, a0, Option.bind_some, if_pos (by decide), if_pos (by rw [r4]; decide), r0, a3, Option.bind_some, if_pos (by decide), if_pos (by decide), w1]
      rw [spec_EndsAfter.l1.eq_2, if_pos (by decide), if_pos i1, if_pos i2, hb, a1, Option.bind_some, if_pos (by decide), if_pos (by rw [r4]; decide), r1, a2, Option.bind_some, if_pos (by decide), if_pos (by decide), w2]
      rw [spec_EndsAfter.l1.eq_2, if_pos (by decide), if_pos i1, if_pos i2, hb, a2, Option.bind_some, if_pos (by decide), if_pos (by rw [r4]; decide), r2, a1, Option.bind_some, if_pos (by decide), if_pos (by decide), w3]
      rw [spec_EndsAfter.l1.eq_2, if_pos (by decide), if_pos i1, if_pos i2, hb, a3, Option.bind_some, if_pos (by decide), if_pos (by rw [r4]; decide), r3, a0, Option.bind_some, if_pos (by decide), if_pos (by decide), w4]
      rw [spec_EndsAfter.l1.eq_2, if_neg (by decide), e1]
      rfl
  · have hb : ¬ bt s (i : Int) = 82 := by rw [hx]; exact fun y => h (hx'.1 y)
    obtain ⟨a0, a1, a2, a3⟩ := l6T _ hb
    have ek : kmv q x = if q = 0 then 2 else if q = 1 then 1 else 0 := by unfold kmv; rw [if_neg h]
    rw [ek]
    rcases hq with rfl | rfl | rfl
    · have r0 : rd (eK 0) 0 = 1 ∧ rd (eK 0) 1 = 0 ∧ rd (eK 0) 2 = 3 ∧ rd (eK 0) 3 = 2 ∧ (eK 0).length = 4 := by decide
      obtain ⟨r0, r1, r2, r3, r4⟩ := r0
      rw [spec_EndsAfter.l1.eq_2, if_pos (by decide), if_pos i1, if_pos i2, a0, Option.bind_some, if_pos (by decide), if_pos (by rw [r4]; decide), r0, a1, Option.bind_some, if_pos (by decide), if_pos (by decide), w1]
      rw [spec_EndsAfter.l1.eq_2, if_pos (by decide), if_pos i1, if_pos i2, a1, Option.bind_some, if_pos (by decide), if_pos (by rw [r4]; decide), r1, a0, Option.bind_some, if_pos (by decide), if_pos (by decide), w2]
      rw [spec_EndsAfter.l1.eq_2, if_pos (by decide), if_pos i1, if_pos i2, a2, Option.bind_some, if_pos (by decide), if_pos (by rw [r4]; decide), r2, a3, Option.bind_some, if_pos (by decide), if_pos (by decide), w3]
      rw [spec_EndsAfter.l1.eq_2, if_pos (by decide), if_pos i1, if_pos i2, a3, Option.bind_some, if_pos (by decide), if_pos (by rw [r4]; decide), r3, a2, Option.bind_some, if_pos (by decide), if_pos (by decide), w4]
      rw [spec_EndsAfter.l1.eq_2, if_neg (by decide), e1]
      rfl
    · have r0 : rd (eK 1) 0 = 2 ∧ rd (eK 1) 1 = 3 ∧ rd (eK 1) 2 = 0 ∧ rd (eK 1) 3 = 1 ∧ (eK 1).length = 4 := by decide
      obtain ⟨r0, r1, r2, r3, r4⟩ := r0
      rw [spec_EndsAfter.l1.eq_2, if_pos (by decide), if_pos i1, if_pos i2, a0, Option.bind_some, if_pos (by decide), if_pos (by rw [r4]; decide), r0, a2, Option.bind_some, if_pos (by decide), if_pos (by decide), w1]
      rw [spec_EndsAfter.l1.eq_2, if_pos (by decide), if_pos i1, if_pos i2, a1, Option.bind_some, if_pos (by decide), if_pos (by rw [r4]; decide), r1, a3, Option.bind_some, if_pos (by decide), if_pos (by decide), w2]
      rw [spec_EndsAfter.l1.eq_2, if_pos (by decide), if_pos i1, if_pos i2, a2, Option.bind_some, if_pos (by decide), if_pos (by rw [r4]; decide), r2, a0, Option.bind_some, if_pos (by decide), if_pos (by decide), w3]
      rw [spec_EndsAfter.l1.eq_2, if_pos (by decide), if_pos i1, if_pos i2, a3, Option.bind_some, if_pos (by decide), if_pos (by rw [r4]; decide), r3, a1, Option.bind_some, if_pos (by decide), if_pos (by decide), w4]
      rw [spec_EndsAfter.l1.eq_2, if_neg (by decide), e1]
      rfl
    · have r0 : rd (eK 2) 0 = 3 ∧ rd (eK 2) 1 = 2 ∧ rd (eK 2) 2 = 1 ∧ rd (eK 2) 3 = 0 ∧ (eK 2).length = 4 := by decide
      obtain ⟨r0, r1, r2, r3, r4⟩ := r0
      rw [spec_EndsAfter.l1.eq_2, if_pos (by decide), if_pos i1, if_pos i2, a0, Option.bind_some, if_pos (by decide), if_pos (by rw [r4]; decide), r0, a3, Option.bind_some, if_pos (by decide), if_pos (by decide), w1]
      rw [spec_EndsAfter.l1.eq_2, if_pos (by decide), if_pos i1, if_pos i2, a1, Option.bind_some, if_pos (by decide), if_pos (by rw [r4]; decide), r1, a2, Option.bind_some, if_pos (by decide), if_pos (by decide), w2]
      rw [spec_EndsAfter.l1.eq_2, if_pos (by decide), if_pos i1, if_pos i2, a2, Option.bind_some, if_pos (by decide), if_pos (by rw [r4]; decide), r2, a1, Option.bind_some, if_pos (by decide), if_pos (by decide), w3]
      rw [spec_EndsAfter.l1.eq_2, if_pos (by decide), if_pos i1, if_pos i2, a3, Option.bind_some, if_pos (by decide), if_pos (by rw [r4]; decide), r3, a0, Option.bind_some, if_pos (by decide), if_pos (by decide), w4]
      rw [spec_EndsAfter.l1.eq_2, if_neg (by decide), e1]
      rfl
theorem spec_EndsAfter_l0 (s : ByteArray) (h40 : s.size ≤ 40) (e : Nat) : ∀ (k : Nat) (i : Nat) (q : Int), 6 * e + 2 ≤ k → i + e = s.size → (q = 0 ∨ q = 1 ∨ q = 2) → spec_EndsAfter.l0 k s (eK q) (i : Int) = some (eK ((s.data.toList.drop i).foldl kmv q)) := by
  have hsz : s.data.toList.length = s.size := by simp
  induction e with
  | zero =>
    intro k i q hk hd hq
    obtain ⟨k, rfl⟩ : ∃ m, k = m + 1 := ⟨k - 1, by omega⟩
    rw [spec_EndsAfter.l0.eq_2, if_neg (by omega), List.drop_eq_nil_of_le (by omega)]
    rfl
  | succ e ih =>
    intro k i q hk hd hq
    obtain ⟨k, rfl⟩ : ∃ m, k = m + 6 := ⟨k - 6, by omega⟩
    have hi : i < s.data.toList.length := by omega
    have hb' : bt s (i : Int) = (s.data.toList[i].toNat : Int) := bt_get s (i : Int) (by omega) (by omega)
    rw [spec_EndsAfter.l0.eq_2, if_pos (by omega), if_pos (by decide), spec_EndsAfter_l1 s i _ (by omega) h40 hb' k q hq, List.drop_eq_getElem_cons hi]
    exact ih k (i + 1) _ (by omega) (by omega) (kmv_rng _ _)
theorem spec_EndsAfter_ev (k : Nat) (s : ByteArray) (hk : s.size + 500 ≤ k) (hn : s.size ≤ 1000000000) : spec_EndsAfter.f k s = some (if Dn s then eK (kE s) else []) := by
  unfold spec_EndsAfter.f
  rw [spec_DanceOk_ev k s (by omega) hn]
  simp only [Option.bind_some, decide_eq_true_eq]
  by_cases h : Dn s
  · have h40 := h.2
    rw [if_pos h, if_pos h]
    exact spec_EndsAfter_l0 s (by omega) s.size k 0 0 (by omega) (by omega) (by simp)
  · rw [if_neg h, if_neg h]
theorem ends_walk (k : Nat) (s : ByteArray) (q : Int) (hq : q = 0 ∨ q = 1 ∨ q = 2) : laws_FnEndsAfter.l0 (k + 5) s (eK q) 0 = ((impl_DancedOf.f k s).bind fun b => (if b.2.2 = true then ((impl_EndsFor.f k b.1 b.2.1).bind fun t => ((laws_sameInts.f k t (eK q)).bind fun u => (some u))) else (some true))) := by
  obtain ⟨w1, w2, w3, w4⟩ := w_lit
  rcases hq with rfl | rfl | rfl
  · rw [laws_FnEndsAfter.l0.eq_2, if_pos (by decide), if_pos (by decide), if_pos (by decide), if_neg (by decide), if_neg (by decide), if_neg (by decide), if_pos (by decide), if_pos (by decide), if_pos (by decide), w1]
    rw [laws_FnEndsAfter.l0.eq_2, if_pos (by decide), if_pos (by decide), if_pos (by decide), if_neg (by decide), if_neg (by decide), if_neg (by decide), if_pos (by decide), if_pos (by decide), if_pos (by decide), w2]
    rw [laws_FnEndsAfter.l0.eq_2, if_pos (by decide), if_pos (by decide), if_pos (by decide), if_neg (by decide), if_neg (by decide), if_neg (by decide), if_pos (by decide), if_pos (by decide), if_pos (by decide), w3]
    rw [laws_FnEndsAfter.l0.eq_2, if_pos (by decide), if_pos (by decide), if_pos (by decide), if_neg (by decide), if_neg (by decide), if_neg (by decide), if_pos (by decide), if_pos (by decide), if_pos (by decide), w4]
    rw [laws_FnEndsAfter.l0.eq_2, if_neg (by decide)]
  · rw [laws_FnEndsAfter.l0.eq_2, if_pos (by decide), if_pos (by decide), if_pos (by decide), if_neg (by decide), if_neg (by decide), if_neg (by decide), if_pos (by decide), if_pos (by decide), if_pos (by decide), w1]
    rw [laws_FnEndsAfter.l0.eq_2, if_pos (by decide), if_pos (by decide), if_pos (by decide), if_neg (by decide), if_neg (by decide), if_neg (by decide), if_pos (by decide), if_pos (by decide), if_pos (by decide), w2]
    rw [laws_FnEndsAfter.l0.eq_2, if_pos (by decide), if_pos (by decide), if_pos (by decide), if_neg (by decide), if_neg (by decide), if_neg (by decide), if_pos (by decide), if_pos (by decide), if_pos (by decide), w3]
    rw [laws_FnEndsAfter.l0.eq_2, if_pos (by decide), if_pos (by decide), if_pos (by decide), if_neg (by decide), if_neg (by decide), if_neg (by decide), if_pos (by decide), if_pos (by decide), if_pos (by decide), w4]
    rw [laws_FnEndsAfter.l0.eq_2, if_neg (by decide)]
  · rw [laws_FnEndsAfter.l0.eq_2, if_pos (by decide), if_pos (by decide), if_pos (by decide), if_neg (by decide), if_neg (by decide), if_neg (by decide), if_pos (by decide), if_pos (by decide), if_pos (by decide), w1]
    rw [laws_FnEndsAfter.l0.eq_2, if_pos (by decide), if_pos (by decide), if_pos (by decide), if_neg (by decide), if_neg (by decide), if_neg (by decide), if_pos (by decide), if_pos (by decide), if_pos (by decide), w2]
    rw [laws_FnEndsAfter.l0.eq_2, if_pos (by decide), if_pos (by decide), if_pos (by decide), if_neg (by decide), if_neg (by decide), if_neg (by decide), if_pos (by decide), if_pos (by decide), if_pos (by decide), w3]
    rw [laws_FnEndsAfter.l0.eq_2, if_pos (by decide), if_pos (by decide), if_pos (by decide), if_neg (by decide), if_neg (by decide), if_neg (by decide), if_pos (by decide), if_pos (by decide), if_pos (by decide), w4]
    rw [laws_FnEndsAfter.l0.eq_2, if_neg (by decide)]
theorem eK_len (q : Int) : (eK q).length = 4 := by unfold eK; repeat' split
                                                   all_goals rfl
theorem FnEndsAfter (l0 : List Int) (hw : ∀ x ∈ l0, (Lit.int .u8 x).wf = true) : ∃ k, laws_FnEndsAfter.f k l0 = some true := by
  refine ⟨3000005, ?_⟩
  unfold laws_FnEndsAfter.f
  by_cases h : (l0.length : Int) > 1048576
  · rw [if_pos h]
  · rw [if_neg h]
    unfold spec_DrawEndsAfter.f
    obtain ⟨m, e, hm⟩ := open_ev l0 hw
    obtain ⟨s, p', e2, _, _, hs⟩ := dance_ev 3000005 m hm 0 20 9 (by decide) (by omega) (by omega) (by omega)
    have hs' : s.size ≤ 2000 := by have : (20 : Int).toNat = 20 := rfl; omega
    rw [e]
    simp only [Option.bind_some]
    rw [e2]
    simp only [Option.bind_some]
    rw [impl_EndsAfter_ev _ s (by omega), spec_EndsAfter_ev _ s (by omega) (by omega)]
    simp only [Option.bind_some]
    have hl : (if Dn s then eK (kE s) else []).length ≤ 4 := by
      split
      · rw [eK_len]; omega
      · simp
    rw [laws_sameInts_ev _ _ _ (by omega) (by omega)]
    simp only [Option.bind_some, decide_true, if_true]
    by_cases hD : Dn s
    · rw [if_pos hD]
      have hq : kE s = 0 ∨ kE s = 1 ∨ kE s = 2 := foldl_kmv_rng _ 0 (by simp)
      rw [if_neg (by rw [eK_len]; omega), ends_walk 3000000 s (kE s) hq, impl_DancedOf_ev _ (by omega), if_pos hD]
      rw [Option.bind_some]
      cases hg : dnc (0, 1) s.data.toList with
      | none => rfl
      | some g =>
        have hF : Fr ((0, 1) : Int × Int).1 ((0, 1) : Int × Int).2 := by decide
        have hk := dnc_kd s.data.toList hF hD.1 hg
        have hgf := dnc_fr s.data.toList hF hg
        show (if true = true then ((impl_EndsFor.f 3000000 g.1 g.2).bind fun t => ((laws_sameInts.f 3000000 t (eK (kE s))).bind fun u => (some u))) else some true) = some true
        rw [if_pos rfl, impl_EndsFor_ev _ (by omega), if_pos hgf, Option.bind_some, ← eK_ends, hk]
        have e0 : s.data.toList.foldl kmv (kd ((0, 1) : Int × Int).1 ((0, 1) : Int × Int).2) = kE s := rfl
        rw [e0, laws_sameInts_ev _ _ _ (by rw [eK_len]; omega) (by rw [eK_len]; omega)]
        simp
    · rw [if_neg hD, if_pos (by simp)]
      rw [impl_DanceOk_ev, alive_ev _ (by omega), decide_eq_false hD]
      rfl
end Go.Proofs.YtcahmfhlmclgkaaDoor.Pure
