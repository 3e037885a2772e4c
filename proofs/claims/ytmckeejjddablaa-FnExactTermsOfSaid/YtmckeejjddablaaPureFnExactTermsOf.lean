/- The pure part of the law FnExactTermsOf: the printed law answers true at all fractions of numbers of 64 bits. No conditions. -/
import Derived.Test.YtmckeejjddablaaPFnExactTermsOfx3
import Derived.OpenShut
namespace Go.Proofs.Ytmckeejjddablaa.Pure
open Go.RowKit Go.Proofs.Ytmckeejjddablaa.PFnExactTermsOf Go.Proofs.YtmckeejjddablaaW.PrintWords Go.Proofs.YtmckeejjddablaaW.PrintLast Go.Proofs.YtmckeejjddablaaW.PrintMore
set_option linter.unusedVariables false
set_option linter.unusedSimpArgs false
theorem st {P : Prop} [Decidable P] (h : P) : some true = some (decide P) := by simp [h]
theorem sf {P : Prop} [Decidable P] (h : ¬P) : some false = some (decide P) := by simp [h]
theorem sd {P Q : Prop} [Decidable P] [Decidable Q] (h : P ↔ Q) : some (decide P) = some (decide Q) := by simp [h]
theorem w64 {n : Int} (h : -9223372036854775808 ≤ n ∧ n ≤ 9223372036854775807) : wrap64 n = n := by unfold wrap64; omega
def kd (u d : Int) : Int := if Int.tmod u 2 = 0 then 0 else if Int.tmod d 2 = 0 then 1 else 2
def Fr (u d : Int) : Prop := -1000000 ≤ u ∧ u ≤ 1000000 ∧ 0 ≤ d ∧ d ≤ 1000000 ∧ (d = 0 → u = 1) ∧ (Int.gcd u d = 1)
instance (u d : Int) : Decidable (Fr u d) := by unfold Fr; exact inferInstance
def Pt (n : Int) : Prop := -1000000 ≤ n ∧ n ≤ 1000000
instance (n : Int) : Decidable (Pt n) := by unfold Pt; exact inferInstance
theorem gcd_step (a b : Int) : Int.gcd b (Int.tmod a b) = Int.gcd a b := by
  unfold Int.gcd
  rw [Int.natAbs_tmod, Nat.gcd_comm a.natAbs b.natAbs, Nat.gcd_rec b.natAbs a.natAbs, Nat.gcd_comm]
theorem tmod_lt (a b : Int) (h : b ≠ 0) : (Int.tmod a b).natAbs < b.natAbs := by
  rw [Int.natAbs_tmod]
  exact Nat.mod_lt _ (by omega)
theorem tdiv_le (a b : Int) : (Int.tdiv a b).natAbs ≤ a.natAbs := by
  rw [Int.natAbs_tdiv]
  exact Nat.div_le_self _ _
theorem tdiv_w (a b : Int) (h : -1000000 ≤ a ∧ a ≤ 1000000) : wrap64 (Int.tdiv a b) = Int.tdiv a b := by
  have := tdiv_le a b
  exact w64 (by omega)
theorem gcd_le_pt (a b : Int) (ha : Pt a) (hb : Pt b) : (Int.gcd a b : Int) ≤ 1000000 := by
  unfold Pt at ha hb
  by_cases h : a = 0
  · subst h
    rw [Int.zero_gcd]
    omega
  · have := Int.gcd_le_natAbs_left b h
    omega
theorem gcd_pos (a b : Int) (h : ¬(a = 0 ∧ b = 0)) : 0 < Int.gcd a b := by
  rcases Nat.eq_zero_or_pos (Int.gcd a b) with h' | h'
  · exact absurd (Int.gcd_eq_zero_iff.mp h') h
  · exact h'
def sg (u d : Int) : Int := if d < 0 ∨ (d = 0 ∧ u < 0) then -(Int.gcd u d : Int) else (Int.gcd u d : Int)
def lowU (u d : Int) : Int := Int.tdiv u (sg u d)
def lowD (u d : Int) : Int := Int.tdiv d (sg u d)
theorem sg_ne (u d : Int) (h : ¬(u = 0 ∧ d = 0)) : sg u d ≠ 0 := by
  have := gcd_pos u d h
  unfold sg
  split <;> omega
theorem mulb {a b : Int} (ha : Pt a) (hb : Pt b) : -1000000000000 ≤ a * b ∧ a * b ≤ 1000000000000 := by
  unfold Pt at ha hb
  have h1 : a.natAbs ≤ 1000000 := by omega
  have h2 : b.natAbs ≤ 1000000 := by omega
  have := Nat.mul_le_mul h1 h2
  rw [← Int.natAbs_mul] at this
  omega
theorem wmul {a b : Int} (ha : Pt a) (hb : Pt b) : wrap64 (a * b) = a * b := by
  have := mulb ha hb
  exact w64 (by omega)
theorem Fr.pu {u d : Int} (h : Fr u d) : Pt u := ⟨h.1, h.2.1⟩
theorem Fr.pd {u d : Int} (h : Fr u d) : Pt d := by unfold Fr at h; unfold Pt; omega
theorem Fr.ne {u d : Int} (h : Fr u d) : ¬(-d = 0 ∧ u = 0) := by
  unfold Fr at h; omega
theorem Fr.wn {u d : Int} (h : Fr u d) : wrap64 (-d) = -d := by
  unfold Fr at h; exact w64 (by omega)
theorem Fr.pn {u d : Int} (h : Fr u d) : Pt (-d) := by
  unfold Fr at h; unfold Pt; omega
def ovU (u d : Int) : Int := if u ≤ 0 then d else -d
def ovD (u : Int) : Int := if u ≤ 0 then -u else u
theorem low_one {u d : Int} (h : Int.gcd u d = 1) : lowU u d = (if d < 0 ∨ (d = 0 ∧ u < 0) then -u else u) ∧ lowD u d = (if d < 0 ∨ (d = 0 ∧ u < 0) then -d else d) := by
  unfold lowU lowD sg
  rw [h]
  split
  · simp
  · simp
theorem low_over {u d : Int} (h : Fr u d) : lowU (-d) u = ovU u d ∧ lowD (-d) u = ovD u := by
  have hg : Int.gcd (-d) u = 1 := by rw [Int.neg_gcd, Int.gcd_comm]; exact h.2.2.2.2.2
  obtain ⟨e1, e2⟩ := low_one hg
  rw [e1, e2]
  unfold Fr at h
  unfold ovU ovD
  by_cases h1 : u < 0
  · rw [if_pos (Or.inl h1), if_pos (Or.inl h1), if_pos (by omega), if_pos (by omega)]; omega
  · by_cases h2 : u = 0
    · have : d = 1 ∨ d ≠ 1 := by omega
      have hd : 0 < d := by omega
      rw [if_pos (Or.inr ⟨h2, by omega⟩), if_pos (Or.inr ⟨h2, by omega⟩), if_pos (by omega), if_pos (by omega)]; omega
    · rw [if_neg (by omega), if_neg (by omega), if_neg (by omega), if_neg (by omega)]; omega
theorem t2z (u : Int) : Int.tmod u 2 = 0 ↔ u % 2 = 0 := by rw [← Int.dvd_iff_tmod_eq_zero, ← Int.dvd_iff_emod_eq_zero]
theorem Fr.odd {u d : Int} (h : Fr u d) : ¬ (u % 2 = 0 ∧ d % 2 = 0) := by
  intro x
  have h1 : (2 : Int) ∣ u := Int.dvd_of_emod_eq_zero x.1
  have h2 : (2 : Int) ∣ d := Int.dvd_of_emod_eq_zero x.2
  have h3 : (2 : Int) ∣ (Int.gcd u d : Int) := Int.dvd_coe_gcd h1 h2
  rw [h.2.2.2.2.2] at h3
  omega
theorem Fr.over {u d : Int} (h : Fr u d) : Fr (ovU u d) (ovD u) := by
  have hn := h.ne
  have hg := h.2.2.2.2.2
  have hc : Int.gcd d u = 1 := by rw [Int.gcd_comm]; exact hg
  unfold Fr at h
  unfold ovU ovD
  by_cases h1 : u ≤ 0
  · rw [if_pos h1, if_pos h1]
    exact ⟨by omega, by omega, by omega, by omega, fun x => by
      have hu : u = 0 := by omega
      subst hu
      rw [Int.gcd_zero_right] at hc
      omega, by rw [Int.gcd_neg]; exact hc⟩
  · rw [if_neg h1, if_neg h1]
    exact ⟨by omega, by omega, by omega, by omega, by omega, by rw [Int.neg_gcd]; exact hc⟩
theorem Fr.neg {u d : Int} (h : Fr u d) (hd : 0 < d) : Fr (-u) d := by
  unfold Fr at h ⊢
  rw [Int.neg_gcd]
  omega
theorem kd_eq (u d : Int) : kd u d = if u % 2 = 0 then 0 else if d % 2 = 0 then 1 else 2 := by
  unfold kd
  simp only [t2z]
theorem kd_over {u d : Int} (h : Fr u d) : kd (ovU u d) (ovD u) = if kd u d = 0 then 1 else if kd u d = 1 then 0 else 2 := by
  have ho := h.odd
  have e1 : (ovU u d) % 2 = 0 ↔ d % 2 = 0 := by unfold ovU; split <;> omega
  have e2 : (ovD u) % 2 = 0 ↔ u % 2 = 0 := by unfold ovD; split <;> omega
  rw [kd_eq, kd_eq]
  simp only [e1, e2]
  by_cases h1 : u % 2 = 0
  · by_cases h2 : d % 2 = 0
    · exact absurd ⟨h1, h2⟩ ho
    · simp [h1, h2]
  · by_cases h2 : d % 2 = 0
    · simp [h1, h2]
    · simp [h1, h2]
theorem kd_plus {u d : Int} (h : Fr u d) : kd (u + d) d = if kd u d = 0 then 2 else if kd u d = 1 then 1 else 0 := by
  have ho := h.odd
  rw [kd_eq, kd_eq]
  by_cases h1 : u % 2 = 0
  · by_cases h2 : d % 2 = 0
    · exact absurd ⟨h1, h2⟩ ho
    · have h3 : ¬ (u + d) % 2 = 0 := by omega
      simp [h1, h2, h3]
  · by_cases h2 : d % 2 = 0
    · have h3 : ¬ (u + d) % 2 = 0 := by omega
      simp [h1, h2, h3]
    · have h3 : (u + d) % 2 = 0 := by omega
      simp [h1, h2, h3]
theorem kd_neg (u d : Int) : kd (-u) d = kd u d := by
  have e : (-u) % 2 = 0 ↔ u % 2 = 0 := by omega
  rw [kd_eq, kd_eq]
  simp only [e]
def endsL (u d : Int) : List Int := if kd u d = 0 then [1, 0, 3, 2] else if kd u d = 1 then [2, 3, 0, 1] else [3, 2, 1, 0]
def pl (u d n : Int) : Int × Int × Bool := if Fr (u + n * d) d then (u + n * d, d, true) else (0, 0, false)
theorem wplus {u d n : Int} (hu : Pt u) (hd : Pt d) (hn : Pt n) : wrap64 (u + wrap64 (n * d)) = u + n * d := by
  have := mulb hn hd
  rw [wmul hn hd]
  unfold Pt at hu
  exact w64 (by omega)
theorem kd_rng (u d : Int) : kd u d = 0 ∨ kd u d = 1 ∨ kd u d = 2 := by
  unfold kd
  split
  · exact Or.inl rfl
  · split
    · exact Or.inr (Or.inl rfl)
    · exact Or.inr (Or.inr rfl)
theorem ltge (a b : Int) : a < b ∨ b ≤ a := by omega
theorem gcd_dvd (u d : Int) : (Int.gcd u d : Int) ∣ u ∧ (Int.gcd u d : Int) ∣ d := ⟨Int.gcd_dvd_left u d, Int.gcd_dvd_right u d⟩
theorem sg_dvd (u d : Int) : sg u d ∣ u ∧ sg u d ∣ d := by
  have h := gcd_dvd u d
  unfold sg
  split
  · exact ⟨Int.neg_dvd.2 h.1, Int.neg_dvd.2 h.2⟩
  · exact h
theorem low_mul (u d : Int) : lowU u d * sg u d = u ∧ lowD u d * sg u d = d :=
  ⟨Int.tdiv_mul_cancel (sg_dvd u d).1, Int.tdiv_mul_cancel (sg_dvd u d).2⟩
theorem low_gcd (u d : Int) (h : ¬(u = 0 ∧ d = 0)) : Int.gcd (lowU u d) (lowD u d) = 1 := by
  have e := low_mul u d
  have g := Int.gcd_mul_right (lowU u d) (sg u d) (lowD u d)
  rw [e.1, e.2] at g
  have hs : (sg u d).natAbs = Int.gcd u d := by unfold sg; split <;> omega
  rw [hs] at g
  have hp := gcd_pos u d h
  have : Int.gcd (lowU u d) (lowD u d) * Int.gcd u d = 1 * Int.gcd u d := by omega
  exact Nat.eq_of_mul_eq_mul_right hp this
theorem low_fr {u d : Int} (hu : Pt u) (hd : Pt d) (h : ¬(u = 0 ∧ d = 0)) : Fr (lowU u d) (lowD u d) := by
  have hg := low_gcd u d h
  have e := low_mul u d
  have b1 := tdiv_le u (sg u d)
  have b2 := tdiv_le d (sg u d)
  have hp := gcd_pos u d h
  have b3 : (lowU u d).natAbs ≤ u.natAbs := b1
  have b4 : (lowD u d).natAbs ≤ d.natAbs := b2
  unfold Pt at hu hd
  have hpos : 0 ≤ lowD u d := by
    rcases ltge (lowD u d) 0 with hl | hl
    · exfalso
      by_cases hd0 : d < 0
      · have hs : sg u d < 0 := by unfold sg; rw [if_pos (Or.inl hd0)]; omega
        have := Int.mul_pos_of_neg_of_neg hl hs
        omega
      · by_cases hdz : d = 0
        · rw [hdz] at e b4
          have : lowD u d = 0 := by rw [hdz]; omega
          omega
        · have hs : 0 < sg u d := by unfold sg; rw [if_neg (by omega)]; omega
          have := Int.mul_neg_of_neg_of_pos hl hs
          omega
    · exact hl
  refine ⟨by omega, by omega, hpos, by omega, ?_, hg⟩
  intro h0
  rw [h0, Int.gcd_zero_right] at hg
  have hd0 : d = 0 := by have := e.2; rw [h0, Int.zero_mul] at this; omega
  have hu0 : u ≠ 0 := fun x => h ⟨x, hd0⟩
  have hU : lowU u d = 1 ∨ lowU u d = -1 := by omega
  rcases hU with hU | hU
  · exact hU
  · exfalso
    have e1 := e.1
    rw [hU] at e1
    by_cases hn : u < 0
    · have : sg u d < 0 := by unfold sg; rw [if_pos (Or.inr ⟨hd0, hn⟩)]; omega
      omega
    · have : 0 < sg u d := by unfold sg; rw [if_neg (by omega)]; omega
      omega
theorem low_cross (u d : Int) : lowU u d * d = u * lowD u d := by
  have e := low_mul u d
  have h1 : lowU u d * d = lowU u d * (lowD u d * sg u d) := by rw [e.2]
  have h2 : u * lowD u d = lowU u d * sg u d * lowD u d := by rw [e.1]
  rw [h1, h2, Int.mul_assoc, Int.mul_comm (sg u d)]
theorem sg_pos_scale (s u d : Int) (hs : 0 < s) : sg (s * u) (s * d) = s * sg u d := by
  unfold sg
  have hg : (Int.gcd (s * u) (s * d) : Int) = s * (Int.gcd u d : Int) := by
    rw [Int.gcd_mul_left]
    have : ((s.natAbs * Int.gcd u d : Nat) : Int) = (s.natAbs : Int) * (Int.gcd u d : Int) := by simp
    rw [this]
    congr 1
    omega
  have c1 : s * d < 0 ↔ d < 0 := by
    constructor
    · intro h
      rcases ltge d 0 with h' | h'
      · exact h'
      · have := Int.mul_nonneg (Int.le_of_lt hs) h'; omega
    · intro h; exact Int.mul_neg_of_pos_of_neg hs h
  have c2 : s * d = 0 ↔ d = 0 := by
    constructor
    · intro h
      rcases Int.mul_eq_zero.mp h with h' | h'
      · omega
      · exact h'
    · intro h; rw [h, Int.mul_zero]
  have c3 : s * u < 0 ↔ u < 0 := by
    constructor
    · intro h
      rcases ltge u 0 with h' | h'
      · exact h'
      · have := Int.mul_nonneg (Int.le_of_lt hs) h'; omega
    · intro h; exact Int.mul_neg_of_pos_of_neg hs h
  simp only [hg, c1, c2, c3]
  split
  · rw [Int.mul_neg]
  · rfl
theorem low_scale (s u d : Int) (hs : 0 < s) : lowU (s * u) (s * d) = lowU u d ∧ lowD (s * u) (s * d) = lowD u d := by
  unfold lowU lowD
  rw [sg_pos_scale s u d hs, Int.mul_tdiv_mul_of_pos _ _ hs, Int.mul_tdiv_mul_of_pos _ _ hs]
  exact ⟨rfl, rfl⟩
theorem low_neg (u d : Int) (h : ¬(u = 0 ∧ d = 0)) : lowU (-u) (-d) = lowU u d ∧ lowD (-u) (-d) = lowD u d := by
  have hs : sg (-u) (-d) = -sg u d := by
    unfold sg
    rw [Int.gcd_neg, Int.neg_gcd]
    by_cases c : d < 0 ∨ (d = 0 ∧ u < 0)
    · rw [if_pos c, if_neg (by omega)]; omega
    · rw [if_neg c, if_pos (by omega)]
  unfold lowU lowD
  rw [hs, Int.tdiv_neg, Int.tdiv_neg, Int.neg_tdiv, Int.neg_tdiv, Int.neg_neg, Int.neg_neg]
  exact ⟨rfl, rfl⟩
theorem Fr.low {u d : Int} (h : Fr u d) : lowU u d = u ∧ lowD u d = d := by
  obtain ⟨e1, e2⟩ := low_one h.2.2.2.2.2
  unfold Fr at h
  rw [if_neg (by omega)] at e1 e2
  exact ⟨e1, e2⟩
theorem over_over {u d : Int} (h : Fr u d) : ovU (ovU u d) (ovD u) = u ∧ ovD (ovU u d) = d := by
  have hg := h.2.2.2.2.2
  unfold Fr at h
  unfold ovU ovD
  by_cases h1 : u ≤ 0
  · simp only [if_pos h1]
    by_cases h2 : d ≤ 0
    · have : u = 1 := h.2.2.2.2.1 (by omega)
      omega
    · rw [if_neg h2, if_neg h2]; omega
  · simp only [if_neg h1]
    rw [if_pos (by omega), if_pos (by omega)]; omega
theorem lt_iff_plus {u d n : Int} (hd : 0 < d) : u * d < (u + n * d) * d ↔ 0 < n := by
  rw [Int.mul_lt_mul_right hd]
  constructor
  · intro h
    rcases ltge 0 n with h' | h'
    · exact h'
    · have := Int.mul_nonneg (show 0 ≤ -n by omega) (Int.le_of_lt hd)
      rw [Int.neg_mul] at this
      omega
  · intro h
    have := Int.mul_pos h hd
    omega
theorem fr_eq {u d u' d' : Int} (h : Fr u d) (h' : Fr u' d') (hd : 0 < d) (hd' : 0 < d') (e : u * d' = u' * d) : u = u' ∧ d = d' := by
  have g1 : Nat.Coprime d.natAbs u.natAbs := by
    have := h.2.2.2.2.2
    rw [Int.gcd_comm] at this
    exact this
  have g2 : Nat.Coprime d'.natAbs u'.natAbs := by
    have := h'.2.2.2.2.2
    rw [Int.gcd_comm] at this
    exact this
  have en : u.natAbs * d'.natAbs = u'.natAbs * d.natAbs := by rw [← Int.natAbs_mul, ← Int.natAbs_mul, e]
  have k1 : d.natAbs ∣ d'.natAbs := Nat.Coprime.dvd_of_dvd_mul_left g1 ⟨u'.natAbs, by rw [en, Nat.mul_comm]⟩
  have k2 : d'.natAbs ∣ d.natAbs := Nat.Coprime.dvd_of_dvd_mul_left g2 ⟨u.natAbs, by rw [← en, Nat.mul_comm]⟩
  have k3 := Nat.dvd_antisymm k1 k2
  have hdd : d = d' := by omega
  subst hdd
  exact ⟨Int.eq_of_mul_eq_mul_right (by omega) e, rfl⟩
def Ls (a b c d : Int) : Prop := Fr a b ∧ Fr c d ∧ 0 < b ∧ 0 < d ∧ a * d < c * b
instance (a b c d : Int) : Decidable (Ls a b c d) := by unfold Ls; exact inferInstance
theorem wtwo {x y z w : Int} (hx : Pt x) (hy : Pt y) (hz : Pt z) (hw : Pt w) : wrap64 (wrap64 (x * y) + wrap64 (z * w)) = x * y + z * w := by
  have h1 := mulb hx hy
  have h2 := mulb hz hw
  rw [wmul hx hy, wmul hz hw]
  exact w64 (by omega)
def Bg (n : Int) : Prop := -2000000000000 ≤ n ∧ n ≤ 2000000000000
theorem two_bg {x y z w : Int} (hx : Pt x) (hy : Pt y) (hz : Pt z) (hw : Pt w) : Bg (x * y + z * w) := by
  have h1 := mulb hx hy
  have h2 := mulb hz hw
  unfold Bg; omega
theorem bg_neg {n : Int} (h : Bg n) : wrap64 (-n) = -n := by unfold Bg at h; exact w64 (by omega)
theorem impl_isPart_ev (n : Int) : impl_isPart.f n = some (decide (Pt n)) := by
  unfold impl_isPart.f Pt
  split
  · exact sd (by omega)
  · exact sf (by omega)
theorem spec_l1In_ev (n a b : Int) : spec_l1In.f n a b = some (decide (a ≤ n ∧ n ≤ b)) := by
  unfold spec_l1In.f
  split
  · exact sd (by omega)
  · exact sf (by omega)
theorem impl_gcd_l0 (n : Nat) : ∀ (k : Nat) (a b : Int), b.natAbs ≤ n → n < k → a.natAbs ≤ 4611686018427387904 → b.natAbs ≤ 4611686018427387904 → impl_gcd.l0 k a b = some (Int.gcd a b : Int) := by
  induction n with
  | zero =>
    intro k a b hb hk ha _
    obtain ⟨k, rfl⟩ : ∃ m, k = m + 1 := ⟨k - 1, by omega⟩
    have hb0 : b = 0 := by omega
    simp only [impl_gcd.l0]
    rw [if_pos hb0, w64 (by omega), hb0, Int.gcd_zero_right]
    unfold mx; congr 1; split <;> omega
  | succ n ih =>
    intro k a b hb hk ha hb'
    obtain ⟨k, rfl⟩ : ∃ m, k = m + 1 := ⟨k - 1, by omega⟩
    simp only [impl_gcd.l0]
    by_cases h : b = 0
    · rw [if_pos h, w64 (by omega), h, Int.gcd_zero_right]
      unfold mx; congr 1; split <;> omega
    · rw [if_neg h]
      have := tmod_lt a b h
      rw [ih k b (Int.tmod a b) (by omega) (by omega) (by omega) (by omega), gcd_step]
theorem impl_gcd_ev (k : Nat) (hk : 1000002 ≤ k) (a b : Int) (ha : Pt a) (hb : Pt b) : impl_gcd.f k a b = some (Int.gcd a b : Int) := by
  unfold Pt at ha hb
  exact impl_gcd_l0 1000001 k a b (by omega) (by omega) (by omega) (by omega)
theorem spec_l1Common_l0 (n : Nat) : ∀ (k : Nat) (a b : Int), 0 ≤ a → 0 ≤ b → b.natAbs ≤ n → n < k → spec_l1Common.l0 k a b = some (Int.gcd a b : Int) := by
  induction n with
  | zero =>
    intro k a b ha hb0 hb hk
    obtain ⟨k, rfl⟩ : ∃ m, k = m + 1 := ⟨k - 1, by omega⟩
    have hb0 : b = 0 := by omega
    subst hb0
    simp only [spec_l1Common.l0]
    rw [if_neg (by omega), Int.gcd_zero_right]
    congr 1; omega
  | succ n ih =>
    intro k a b ha hb0 hb hk
    obtain ⟨k, rfl⟩ : ∃ m, k = m + 1 := ⟨k - 1, by omega⟩
    simp only [spec_l1Common.l0]
    by_cases h : b = 0
    · subst h
      rw [if_neg (by omega), Int.gcd_zero_right]
      congr 1; omega
    · rw [if_pos (by omega), if_neg h]
      have := tmod_lt a b h
      have h2 := Int.tmod_nonneg b ha
      rw [ih k b (Int.tmod a b) hb0 h2 (by omega) (by omega), gcd_step]
theorem mx_abs (a : Int) (h : Pt a) : mx a (wrap64 (-a)) = (a.natAbs : Int) := by
  unfold Pt at h
  rw [w64 (by omega)]
  unfold mx; split <;> omega
theorem spec_l1Common_ev (k : Nat) (hk : 1000002 ≤ k) (a b : Int) (ha : Pt a) (hb : Pt b) : spec_l1Common.f k a b = some (Int.gcd a b : Int) := by
  unfold spec_l1Common.f
  rw [mx_abs a ha, mx_abs b hb, spec_l1Common_l0 1000001 k _ _ (by omega) (by omega) (by unfold Pt at hb; omega) (by omega)]
  rfl
theorem impl_isFraction_ev (k : Nat) (hk : 1000002 ≤ k) (u d : Int) : impl_isFraction.f k u d = some (decide (Fr u d)) := by
  unfold impl_isFraction.f
  simp only [impl_isPart_ev, Option.bind_some, decide_eq_true_eq]
  by_cases hu : Pt u
  · rw [if_pos hu]
    by_cases h1 : d < 0
    · rw [if_pos h1]; exact sf (by intro h; unfold Fr at h; omega)
    · rw [if_neg h1]
      by_cases h2 : d > 1000000
      · rw [if_pos h2]; exact sf (by intro h; unfold Fr at h; omega)
      · rw [if_neg h2]
        have hd : Pt d := by unfold Pt; omega
        rw [impl_gcd_ev k hk u d hu hd]
        unfold Pt at hu
        have e : ((Int.gcd u d : Int) == 1) = decide (Int.gcd u d = 1) := by rw [Bool.eq_iff_iff]; simp; omega
        simp only [Option.bind_some, e]
        by_cases h3 : d = 0
        · rw [if_pos h3]
          by_cases h4 : u = 1
          · rw [if_pos h4]; exact sd (by unfold Fr; omega)
          · rw [if_neg h4]; exact sf (by intro h; unfold Fr at h; omega)
        · rw [if_neg h3]; exact sd (by unfold Fr; omega)
  · rw [if_neg hu]; exact sf (by intro h; unfold Fr at h; unfold Pt at hu; omega)
theorem spec_FractionOk_ev (k : Nat) (hk : 1000002 ≤ k) (u d : Int) : spec_FractionOk.f k u d = some (decide (Fr u d)) := by
  unfold spec_FractionOk.f
  simp only [spec_l1In_ev, Option.bind_some, decide_eq_true_eq]
  by_cases hu : -1000000 ≤ u ∧ u ≤ 1000000
  · rw [if_pos hu]
    by_cases hd : 0 ≤ d ∧ d ≤ 1000000
    · rw [if_pos hd, spec_l1Common_ev k hk u d hu (by unfold Pt; omega)]
      simp only [Option.bind_some]
      by_cases h1 : (Int.gcd u d : Int) = 1
      · rw [if_pos h1]
        by_cases h3 : d > 0
        · rw [if_pos h3]; exact st (by unfold Fr; omega)
        · rw [if_neg h3]
          have e : (u == 1) = decide (u = 1) := by rw [Bool.eq_iff_iff]; simp
          rw [e]; exact sd (by unfold Fr; omega)
      · rw [if_neg h1]; exact sf (by intro h; unfold Fr at h; omega)
    · rw [if_neg hd]; exact sf (by intro h; unfold Fr at h; omega)
  · rw [if_neg hu]; exact sf (by intro h; unfold Fr at h; omega)
theorem laws_toFraction_ev (a b : Int) : laws_toFraction.f a b = some (a, b) := rfl
theorem laws_eqIntS_l0 (a b : List Int) (hl : a.length = b.length) (hn : a.length ≤ 1048576) (d : Nat) : ∀ (k : Nat) (i : Int), 0 ≤ i → i + d = a.length → d < k → laws_eqIntS.l0 k a b i = some (decide (a.drop i.toNat = b.drop i.toNat)) := by
  induction d with
  | zero =>
    intro k i h0 hd hk
    obtain ⟨k, rfl⟩ : ∃ m, k = m + 1 := ⟨k - 1, by omega⟩
    simp only [laws_eqIntS.l0]
    rw [if_neg (by omega)]
    refine st ?_
    rw [List.drop_eq_nil_of_le (by omega), List.drop_eq_nil_of_le (by omega)]
  | succ d ih =>
    intro k i h0 hd hk
    obtain ⟨k, rfl⟩ : ∃ m, k = m + 1 := ⟨k - 1, by omega⟩
    simp only [laws_eqIntS.l0]
    have h1 : i.toNat < a.length := by omega
    have h2 : i.toNat < b.length := by omega
    rw [if_pos (by omega), if_pos h0, if_pos (by omega), w64 (by omega), ih k (i + 1) (by omega) (by omega) (by omega)]
    have e : (i + 1).toNat = i.toNat + 1 := by omega
    have ra : rd a i = a[i.toNat] := by unfold rd; simp [h1]
    have rb : rd b i = b[i.toNat] := by unfold rd; simp [h2]
    rw [e, ra, rb, List.drop_eq_getElem_cons h1, List.drop_eq_getElem_cons h2]
    by_cases hc : a[i.toNat] = b[i.toNat]
    · rw [if_pos hc]; exact sd (by rw [List.cons.injEq]; exact ⟨fun h => ⟨hc, h⟩, And.right⟩)
    · rw [if_neg hc]; exact sf (by rw [List.cons.injEq]; exact fun h => hc h.1)
theorem laws_eqIntS_ev (k : Nat) (a b : List Int) (hk : a.length < k) (hn : a.length ≤ 1048576) : laws_eqIntS.f k a b = some (decide (a = b)) := by
  unfold laws_eqIntS.f
  by_cases h : a.length = b.length
  · rw [if_pos (by omega), laws_eqIntS_l0 a b h hn a.length k 0 (by omega) (by omega) hk]; simp
  · rw [if_neg (by omega)]; exact sf (fun e => h (by rw [e]))
def upFrom : Nat → Int → List Int
  | 0, _ => []
  | n + 1, a => a :: upFrom n (a + 1)
theorem upFrom_len (n : Nat) : ∀ a, (upFrom n a).length = n := by
  induction n with
  | zero => intro a; rfl
  | succ n ih => intro a; simp [upFrom, ih]
theorem upFrom_get (n : Nat) : ∀ (a : Int) (j : Nat) (h : j < (upFrom n a).length), (upFrom n a)[j] = a + j := by
  induction n with
  | zero => intro a j h; simp [upFrom] at h
  | succ n ih =>
    intro a j h
    cases j with
    | zero => simp [upFrom]
    | succ j =>
      simp only [upFrom, List.getElem_cons_succ]
      rw [ih]
      omega
theorem markIntS_l0 (n : Nat) (hn : n ≤ 1048576) (a : Int) (ha : 0 ≤ a ∧ a ≤ 1000000) (d : Nat) : ∀ (k : Nat) (x : List Int) (i : Int), 0 ≤ i → i + d = n → d < k → x.length = n → (∀ j : Nat, (h : j < x.length) → (j : Int) < i → x[j] = a + j) → laws_markIntS.l0 k x (a + i) i = some (a + n, upFrom n a) := by
  induction d with
  | zero =>
    intro k x i h0 hd hk hl hj
    obtain ⟨k, rfl⟩ : ∃ m, k = m + 1 := ⟨k - 1, by omega⟩
    simp only [laws_markIntS.l0]
    rw [if_neg (by omega)]
    have e : x = upFrom n a := by
      apply List.ext_getElem (by rw [upFrom_len, hl])
      intro j h1 h2
      rw [hj j h1 (by omega), upFrom_get]
    rw [e]
    congr 2
    omega
  | succ d ih =>
    intro k x i h0 hd hk hl hj
    obtain ⟨k, rfl⟩ : ∃ m, k = m + 1 := ⟨k - 1, by omega⟩
    simp only [laws_markIntS.l0]
    rw [if_pos (by omega), if_pos h0, w64 (by omega), w64 (by omega)]
    have e : a + i + 1 = a + (i + 1) := by omega
    rw [e]
    refine ih k _ (i + 1) (by omega) (by omega) (by omega) (by simpa using hl) ?_
    intro j h hj'
    by_cases ej : j = i.toNat
    · subst ej
      rw [List.getElem_set_self]
      omega
    · rw [List.getElem_set_ne (by omega)]
      exact hj j (by simpa using h) (by omega)
theorem markIntS_ev (k : Nat) (x : List Int) (hk : x.length < k) (hn : x.length ≤ 1048576) : laws_markIntS.f k x 1 = some (1 + (x.length : Int), upFrom x.length 1) := by
  unfold laws_markIntS.f
  have := markIntS_l0 x.length hn 1 (by omega) x.length k x 0 (by omega) (by omega) hk rfl (by intro j h hj; omega)
  rw [Int.add_zero] at this
  exact this
theorem heldIntS_l0 (n : Nat) (hn : n ≤ 1048576) (a : Int) (ha : 0 ≤ a ∧ a ≤ 1000000) (d : Nat) : ∀ (k : Nat) (i : Int), 0 ≤ i → i + d = n → d < k → laws_heldIntS.l0 k (upFrom n a) (a + i) i = some (a + n) := by
  have hl := upFrom_len n a
  induction d with
  | zero =>
    intro k i h0 hd hk
    obtain ⟨k, rfl⟩ : ∃ m, k = m + 1 := ⟨k - 1, by omega⟩
    simp only [laws_heldIntS.l0]
    rw [if_neg (by omega)]
    congr 1
    omega
  | succ d ih =>
    intro k i h0 hd hk
    obtain ⟨k, rfl⟩ : ∃ m, k = m + 1 := ⟨k - 1, by omega⟩
    simp only [laws_heldIntS.l0]
    have h1 : i.toNat < (upFrom n a).length := by omega
    have ra : rd (upFrom n a) i = a + i := by
      unfold rd
      have : (upFrom n a).getD i.toNat 0 = (upFrom n a)[i.toNat] := by simp [h1]
      rw [this, upFrom_get]
      omega
    rw [if_pos (by omega), if_pos h0, if_pos ra, w64 (by omega), w64 (by omega)]
    have e : a + i + 1 = a + (i + 1) := by omega
    rw [e]
    exact ih k (i + 1) (by omega) (by omega) (by omega)
theorem heldIntS_ev (k n : Nat) (hk : n < k) (hn : n ≤ 1048576) : laws_heldIntS.f k (upFrom n 1) 1 = some (1 + (n : Int)) := by
  unfold laws_heldIntS.f
  have := heldIntS_l0 n hn 1 (by omega) n k 0 (by omega) (by omega) hk
  rw [Int.add_zero] at this
  exact this
theorem impl_isSmall_ev (k : Nat) (hk : 1000002 ≤ k) (u d n : Int) (hn : 0 ≤ n ∧ n ≤ 1000000) : impl_isSmall.f k u d n = some (decide (Fr u d ∧ -n ≤ u ∧ u ≤ n ∧ d ≤ n)) := by
  unfold impl_isSmall.f
  rw [impl_isFraction_ev k hk, w64 (by omega)]
  simp only [Option.bind_some, decide_eq_true_eq]
  by_cases h : Fr u d
  · rw [if_pos h]
    by_cases h1 : u ≥ -n
    · rw [if_pos h1]
      by_cases h2 : u ≤ n
      · rw [if_pos h2]; exact sd ⟨fun x => ⟨h, h1, h2, x⟩, fun x => x.2.2.2⟩
      · rw [if_neg h2]; exact sf (fun x => h2 x.2.2.1)
    · rw [if_neg h1]; exact sf (fun x => h1 x.2.1)
  · rw [if_neg h]; exact sf (fun x => h x.1)
def ce (u d : Int) : Int := -((-u) / d)
theorem ce_spec {u d : Int} (hd : 0 < d) : 0 ≤ ce u d * d - u ∧ ce u d * d - u < d := by
  have h1 := Int.emod_nonneg (-u) (show d ≠ 0 by omega)
  have h2 := Int.emod_lt_of_pos (-u) hd
  have h3 := Int.mul_ediv_add_emod (-u) d
  unfold ce
  rw [Int.neg_mul, Int.mul_comm]
  omega
theorem ce_unique {u d c : Int} (hd : 0 < d) (h0 : 0 ≤ c * d - u) (h1 : c * d - u < d) : c = ce u d := by
  have h2 := ce_spec (u := u) hd
  rcases ltge c (ce u d) with h | h
  · have : (c + 1) * d ≤ ce u d * d := Int.mul_le_mul_of_nonneg_right (by omega) (by omega)
    rw [Int.add_mul, Int.one_mul] at this
    omega
  · by_cases e : c = ce u d
    · exact e
    · have : (ce u d + 1) * d ≤ c * d := Int.mul_le_mul_of_nonneg_right (by omega) (by omega)
      rw [Int.add_mul, Int.one_mul] at this
      omega
theorem tdiv_facts (u d : Int) (hd : 0 < d) : (0 ≤ u → 0 ≤ u - Int.tdiv u d * d ∧ u - Int.tdiv u d * d < d) ∧ (u < 0 → 0 ≤ Int.tdiv u d * d - u ∧ Int.tdiv u d * d - u < d) := by
  have h := Int.mul_tdiv_add_tmod u d
  rw [Int.mul_comm] at h
  constructor
  · intro hu
    have h1 := Int.tmod_nonneg d hu
    have h2 := Int.tmod_lt_of_pos u hd
    omega
  · intro hu
    have h1 := Int.tmod_nonneg d (show 0 ≤ -u by omega)
    have h2 := Int.tmod_lt_of_pos (-u) hd
    rw [Int.neg_tmod] at h1 h2
    omega
theorem ce_bd {u d n : Int} (hd : 0 < d) (h : -n ≤ u ∧ u ≤ n) (hn : 0 ≤ n) : -n ≤ ce u d ∧ ce u d ≤ n := by
  have h2 := ce_spec (u := u) hd
  constructor
  · rcases ltge (ce u d) (-n) with h' | h'
    · exfalso
      have t1 : ce u d * d ≤ (-n - 1) * d := Int.mul_le_mul_of_nonneg_right (by omega) (by omega)
      have t2 : (-n - 1) * d ≤ (-n - 1) * 1 := Int.mul_le_mul_of_nonpos_left (by omega) (by omega)
      omega
    · exact h'
  · rcases ltge n (ce u d) with h' | h'
    · exfalso
      have t1 : (n + 1) * d ≤ ce u d * d := Int.mul_le_mul_of_nonneg_right (by omega) (by omega)
      rw [Int.add_mul, Int.one_mul] at t1
      have t2 : n * 1 ≤ n * d := Int.mul_le_mul_of_nonneg_left (by omega) hn
      omega
    · exact h'
theorem impl_ceiling_ev (u d : Int) (hd : 0 < d) (hb : d ≤ 1000) (hu : -1000 ≤ u ∧ u ≤ 1000) : impl_ceiling.f u d = some (ce u d) := by
  unfold impl_ceiling.f
  have b := tdiv_le u d
  have f := tdiv_facts u d hd
  have w1 : wrap64 (Int.tdiv u d) = Int.tdiv u d := w64 (by omega)
  have pm := mulb (a := Int.tdiv u d) (b := d) (by unfold Pt; omega) (by unfold Pt; omega)
  have w2 : wrap64 (Int.tdiv u d * d) = Int.tdiv u d * d := w64 (by omega)
  rw [if_neg (by omega), w1, w2]
  by_cases h : Int.tdiv u d * d < u
  · rw [if_pos h, w64 (by omega)]
    congr 1
    refine ce_unique hd ?_ ?_ <;> rw [Int.add_mul, Int.one_mul]
    · have h' : 0 ≤ u := by
        rcases ltge u 0 with x | x
        · have := f.2 x; omega
        · exact x
      have := f.1 h'
      omega
    · omega
  · rw [if_neg h]
    congr 1
    refine ce_unique hd (by omega) ?_
    rcases ltge u 0 with x | x
    · have := f.2 x; omega
    · have := f.1 x; omega
theorem spec_l4Over_ev (u d : Int) (hd : 0 < d) (hb : d ≤ 1000) (hu : -1000 ≤ u ∧ u ≤ 1000) : spec_l4Over.f u d = some (ce u d) := by
  unfold spec_l4Over.f spec_l3Under.f
  have b := tdiv_le (-u) d
  have f := tdiv_facts (-u) d hd
  have w0 : wrap64 (-u) = -u := w64 (by omega)
  rw [w0]
  have w1 : wrap64 (Int.tdiv (-u) d) = Int.tdiv (-u) d := w64 (by omega)
  have pm := mulb (a := Int.tdiv (-u) d) (b := d) (by unfold Pt; omega) (by unfold Pt; omega)
  have w2 : wrap64 (Int.tdiv (-u) d * d) = Int.tdiv (-u) d * d := w64 (by omega)
  rw [if_neg (by omega), w1, w2]
  by_cases h : Int.tdiv (-u) d * d > -u
  · rw [if_pos h, w64 (by omega)]
    simp only [Option.bind_some]
    rw [w64 (by omega)]
    congr 1
    refine ce_unique hd ?_ ?_ <;> rw [Int.neg_mul, Int.sub_mul, Int.one_mul]
    · have h' : -u < 0 := by
        rcases ltge (-u) 0 with x | x
        · exact x
        · have := f.1 x; omega
      have := f.2 h'
      omega
    · omega
  · rw [if_neg h]
    simp only [Option.bind_some]
    rw [w64 (by omega)]
    congr 1
    refine ce_unique hd ?_ ?_ <;> rw [Int.neg_mul]
    · omega
    · rcases ltge (-u) 0 with x | x
      · have := f.2 x; omega
      · have := f.1 x; omega
def teL : Nat → Int → Int → List Int
  | 0, _, _ => []
  | n + 1, u, d => if ce u d * d - u = 0 then [ce u d] else ce u d :: teL n d (ce u d * d - u)
theorem impl_termsOf_l0 (n : Nat) : ∀ (k : Nat) (l : List Int) (u d : Int), n < k → 0 < d → d ≤ n → d ≤ 60 → -60 ≤ u → u ≤ 60 → l.length + n ≤ 1000 → impl_termsOf.l0 k l u d = some (l ++ teL n u d) := by
  induction n with
  | zero => intro k l u d hk h0 h1; omega
  | succ n ih =>
    intro k l u d hk h0 h1 h2 h3 h4 h5
    obtain ⟨k, rfl⟩ : ∃ m, k = m + 1 := ⟨k - 1, by omega⟩
    simp only [impl_termsOf.l0, teL]
    have hc := ce_spec (u := u) h0
    have hb := ce_bd (n := 60) h0 ⟨h3, h4⟩ (by omega)
    have pm := mulb (a := ce u d) (b := d) (by unfold Pt; omega) (by unfold Pt; omega)
    rw [impl_ceiling_ev u d h0 (by omega) (by omega)]
    simp only [Option.bind_some]
    rw [if_pos (by omega), w64 (by omega : -9223372036854775808 ≤ ce u d * d ∧ _), w64 (by omega)]
    by_cases hz : ce u d * d - u = 0
    · rw [if_pos hz, if_pos hz]
    · rw [if_neg hz, if_neg hz, ih k _ _ _ (by omega) (by omega) (by omega) (by omega) (by omega) (by omega) (by simp; omega)]
      simp
theorem impl_termsOf_ev (k : Nat) (hk : 70 ≤ k) (u d : Int) (h0 : 0 < d) (h2 : d ≤ 60) (h3 : -60 ≤ u ∧ u ≤ 60) : impl_termsOf.f k u d = some (teL 60 u d) := by
  unfold impl_termsOf.f
  have := impl_termsOf_l0 60 k [] u d (by omega) h0 (by omega) h2 h3.1 h3.2 (by simp)
  simpa using this
def Tf (u d : Int) : Prop := Fr u d ∧ -60 ≤ u ∧ u ≤ 60 ∧ 1 ≤ d ∧ d ≤ 60
instance (u d : Int) : Decidable (Tf u d) := by unfold Tf; exact inferInstance
theorem impl_TermsOf_ev (k : Nat) (hk : 1000100 ≤ k) (u d : Int) : impl_TermsOf.f k u d = some (if Tf u d then (teL 60 u d, true) else ([], false)) := by
  unfold impl_TermsOf.f
  rw [impl_isSmall_ev k (by omega) u d 60 (by omega)]
  simp only [Option.bind_some, decide_eq_true_eq]
  by_cases h : Fr u d ∧ -60 ≤ u ∧ u ≤ 60 ∧ d ≤ 60
  · rw [if_pos h]
    have hd := h.1.2.2.1
    by_cases h0 : d = 0
    · rw [if_pos h0, if_neg (by intro x; have := x.2.2.2.1; omega)]
    · have ht : Tf u d := ⟨h.1, h.2.1, h.2.2.1, by omega, h.2.2.2⟩
      rw [if_neg h0, if_pos ht, impl_termsOf_ev k (by omega) u d (by omega) h.2.2.2 ⟨h.2.1, h.2.2.1⟩]
      rfl
  · rw [if_neg h, if_neg (fun x => h ⟨x.1, x.2.1, x.2.2.1, x.2.2.2.2⟩)]
theorem spec_l4Terms_l0 (n : Nat) : ∀ (k : Nat) (l : List Int) (u d : Int), n + 1 < k → 0 < d → d ≤ n → d ≤ 60 → -60 ≤ u → u ≤ 60 → l.length + n ≤ 1000 → spec_l4Terms.l0 k l u d = some (l ++ teL n u d) := by
  induction n with
  | zero => intro k l u d hk h0 h1; omega
  | succ n ih =>
    intro k l u d hk h0 h1 h2 h3 h4 h5
    obtain ⟨k, rfl⟩ : ∃ m, k = m + 1 := ⟨k - 1, by omega⟩
    simp only [spec_l4Terms.l0, teL]
    have hc := ce_spec (u := u) h0
    have hb := ce_bd (n := 60) h0 ⟨h3, h4⟩ (by omega)
    have pm := mulb (a := ce u d) (b := d) (by unfold Pt; omega) (by unfold Pt; omega)
    rw [if_pos h0, spec_l4Over_ev u d h0 (by omega) (by omega)]
    simp only [Option.bind_some]
    rw [if_pos (by omega), w64 (by omega : -9223372036854775808 ≤ ce u d * d ∧ _), w64 (by omega)]
    by_cases hz : ce u d * d - u = 0
    · rw [if_pos hz, hz]
      obtain ⟨k, rfl⟩ : ∃ m, k = m + 1 := ⟨k - 1, by omega⟩
      simp only [spec_l4Terms.l0]
      rw [if_neg (by omega)]
    · rw [if_neg hz, ih k _ _ _ (by omega) (by omega) (by omega) (by omega) (by omega) (by omega) (by simp; omega)]
      simp
theorem spec_TermsOf_ev (k : Nat) (hk : 1000100 ≤ k) (u d : Int) : spec_TermsOf.f k u d = some (if Tf u d then (teL 60 u d, true) else ([], false)) := by
  unfold spec_TermsOf.f
  simp only [spec_FractionOk_ev k (by omega), spec_l1In_ev, Option.bind_some, decide_eq_true_eq]
  by_cases h1 : Fr u d
  · rw [if_pos h1]
    by_cases h2 : -60 ≤ u ∧ u ≤ 60
    · rw [if_pos h2]
      by_cases h3 : 1 ≤ d ∧ d ≤ 60
      · have ht : Tf u d := ⟨h1, h2.1, h2.2, h3.1, h3.2⟩
        rw [if_pos h3, if_pos ht]
        unfold spec_l4Terms.f
        rw [spec_l4Terms_l0 60 k [] u d (by omega) (by omega) (by omega) h3.2 h2.1 h2.2 (by simp)]
        simp
      · rw [if_neg h3, if_neg (fun x => h3 ⟨x.2.2.2.1, x.2.2.2.2⟩)]
    · rw [if_neg h2, if_neg (fun x => h2 ⟨x.2.1, x.2.2.1⟩)]
  · rw [if_neg h1, if_neg (fun x => h1 x.1)]
theorem teL_len (n : Nat) : ∀ (u d : Int), 0 < d → d ≤ n → ((teL n u d).length : Int) ≤ d ∧ 1 ≤ (teL n u d).length := by
  induction n with
  | zero => intro u d h0 h1; omega
  | succ n ih =>
    intro u d h0 h1
    have hc := ce_spec (u := u) h0
    simp only [teL]
    by_cases hz : ce u d * d - u = 0
    · rw [if_pos hz]; simp; omega
    · rw [if_neg hz]
      have := ih d (ce u d * d - u) (by omega) (by omega)
      simp
      omega
theorem FnExactTermsOf : ∀ (a0_0 : Int) (a0_1 : Int), (Lit.int .i64 a0_0).wf = true → (Lit.int .i64 a0_1).wf = true → ∃ k, laws_FnExactTermsOf.f k a0_0 a0_1 = some true := by
  intro a b _ _
  refine ⟨1000500, ?_⟩
  unfold laws_FnExactTermsOf.f
  simp only [laws_toFraction_ev, Option.bind_some]
  rw [spec_TermsOf_ev _ (by omega), impl_TermsOf_ev _ (by omega)]
  have hl : (if Tf a b then (teL 60 a b, true) else ([], false)).1.length ≤ 60 := by
    by_cases h : Tf a b
    · rw [if_pos h]
      have h1 := h.2.2.2.1
      have h2 := h.2.2.2.2
      have := teL_len 60 a b (by omega) (by omega)
      simp only
      omega
    · rw [if_neg h]; simp
  have hi := impl_TermsOf_ev 1000499 (by omega) a b
  simp only [Option.bind_some]
  generalize (if Tf a b then (teL 60 a b, true) else ([], false)) = z at hl hi ⊢
  have hz : (z.2 != z.2) = false := by cases z.2 <;> rfl
  rw [laws_eqIntS_ev _ _ _ (by omega) (by omega), hz]
  simp only [Option.bind_some, decide_true, if_true]
  simp only [laws_FnExactTermsOf.j0]
  rw [if_neg (by simp), markIntS_ev _ _ (by omega) (by omega)]
  simp only [Option.bind_some]
  rw [heldIntS_ev _ _ (by omega) (by omega)]
  simp only [Option.bind_some]
  rw [if_neg (by omega), if_pos trivial]
  simp only [laws_toFraction_ev, Option.bind_some]
  rw [hi]
  simp only [Option.bind_some]
  rw [laws_eqIntS_ev _ _ _ (by omega) (by omega), hz]
  simp only [Option.bind_some, decide_true, if_true]
  simp only [laws_FnExactTermsOf.j1]
  rw [if_neg (by simp), heldIntS_ev _ _ (by omega) (by omega)]
  simp only [Option.bind_some]
  rw [if_neg (by omega)]
  simp
end Go.Proofs.Ytmckeejjddablaa.Pure
