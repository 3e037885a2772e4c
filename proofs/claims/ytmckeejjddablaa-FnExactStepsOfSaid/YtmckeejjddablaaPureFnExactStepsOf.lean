/- The pure part of the law FnExactStepsOf: the printed law answers true at all fractions of numbers of 64 bits. No conditions. -/
import Derived.Test.YtmckeejjddablaaPFnExactStepsOfx3
import Derived.OpenShut
namespace Go.Proofs.Ytmckeejjddablaa.Pure
open Go.RowKit Go.Proofs.Ytmckeejjddablaa.PFnExactStepsOf Go.Proofs.YtmckeejjddablaaW.PrintWords Go.Proofs.YtmckeejjddablaaW.PrintLast Go.Proofs.YtmckeejjddablaaW.PrintMore
set_option linter.unusedVariables false
set_option linter.unusedSimpArgs false
theorem st {P : Prop} [Decidable P] (h : P) : some true = some (decide P) := by simp [h]
theorem sf {P : Prop} [Decidable P] (h : ¬P) : some false = some (decide P) := by simp [h]
theorem sd {P Q : Prop} [Decidable P] [Decidable Q] (h : P ↔ Q) : some (decide P) = some (decide Q) := by simp [h]
theorem w64 {n : Int} (h : -9223372036854775808 ≤ n ∧ n ≤ 9223372036854775807) : wrap64 n = n := by unfold wrap64; omega
def kd (u d : Int) : Int := if Int.tmod u 2 = 0 then 0 else if Int.tmod d 2 = 0 then 1 else 2
def Fr (u d : Int) : Prop := -1000000 ≤ u ∧ u ≤ 1000000 ∧ 0 ≤ d ∧ d ≤ 1000000 ∧ (d = 0 → u = 1) ∧ (Int.gcd u d = 1)
instance (u d : Int) : Decidable (Fr u d) := by unfold Fr; exact inferInstance
def Pt (n : Int) : Prop := -1000000 ≤ n ∧ n ≤ 1000000
instance (n : Int) : Decidable (Pt n) := by unfold Pt; exact inferInstance
theorem gcd_step (a b : Int) : Int.gcd b (Int.tmod a b) = Int.gcd a b := by
  unfold Int.gcd
  rw [Int.natAbs_tmod, Nat.gcd_comm a.natAbs b.natAbs, Nat.gcd_rec b.natAbs a.natAbs, Nat.gcd_comm]
theorem tmod_lt (a b : Int) (h : b ≠ 0) : (Int.tmod a b).natAbs < b.natAbs := by
  rw [Int.natAbs_tmod]
  exact Nat.mod_lt _ (by omega)
theorem tdiv_le (a b : Int) : (Int.tdiv a b).natAbs ≤ a.natAbs := by
  rw [Int.natAbs_tdiv]
  exact Nat.div_le_self _ _
theorem tdiv_w (a b : Int) (h : -1000000 ≤ a ∧ a ≤ 1000000) : wrap64 (Int.tdiv a b) = Int.tdiv a b := by
  have := tdiv_le a b
  exact w64 (by omega)
theorem gcd_le_pt (a b : Int) (ha : Pt a) (hb : Pt b) : (Int.gcd a b : Int) ≤ 1000000 := by
  unfold Pt at ha hb
  by_cases h : a = 0
  · subst h
    rw [Int.zero_gcd]
    omega
  · have := Int.gcd_le_natAbs_left b h
    omega
theorem gcd_pos (a b : Int) (h : ¬(a = 0 ∧ b = 0)) : 0 < Int.gcd a b := by
  rcases Nat.eq_zero_or_pos (Int.gcd a b) with h' | h'
  · exact absurd (Int.gcd_eq_zero_iff.mp h') h
  · exact h'
def sg (u d : Int) : Int := if d < 0 ∨ (d = 0 ∧ u < 0) then -(Int.gcd u d : Int) else (Int.gcd u d : Int)
def lowU (u d : Int) : Int := Int.tdiv u (sg u d)
def lowD (u d : Int) : Int := Int.tdiv d (sg u d)
theorem sg_ne (u d : Int) (h : ¬(u = 0 ∧ d = 0)) : sg u d ≠ 0 := by
  have := gcd_pos u d h
  unfold sg
  split <;> omega
theorem mulb {a b : Int} (ha : Pt a) (hb : Pt b) : -1000000000000 ≤ a * b ∧ a * b ≤ 1000000000000 := by
  unfold Pt at ha hb
  have h1 : a.natAbs ≤ 1000000 := by omega
  have h2 : b.natAbs ≤ 1000000 := by omega
  have := Nat.mul_le_mul h1 h2
  rw [← Int.natAbs_mul] at this
  omega
theorem wmul {a b : Int} (ha : Pt a) (hb : Pt b) : wrap64 (a * b) = a * b := by
  have := mulb ha hb
  exact w64 (by omega)
theorem Fr.pu {u d : Int} (h : Fr u d) : Pt u := ⟨h.1, h.2.1⟩
theorem Fr.pd {u d : Int} (h : Fr u d) : Pt d := by unfold Fr at h; unfold Pt; omega
theorem Fr.ne {u d : Int} (h : Fr u d) : ¬(-d = 0 ∧ u = 0) := by
  unfold Fr at h; omega
theorem Fr.wn {u d : Int} (h : Fr u d) : wrap64 (-d) = -d := by
  unfold Fr at h; exact w64 (by omega)
theorem Fr.pn {u d : Int} (h : Fr u d) : Pt (-d) := by
  unfold Fr at h; unfold Pt; omega
def ovU (u d : Int) : Int := if u ≤ 0 then d else -d
def ovD (u : Int) : Int := if u ≤ 0 then -u else u
theorem low_one {u d : Int} (h : Int.gcd u d = 1) : lowU u d = (if d < 0 ∨ (d = 0 ∧ u < 0) then -u else u) ∧ lowD u d = (if d < 0 ∨ (d = 0 ∧ u < 0) then -d else d) := by
  unfold lowU lowD sg
  rw [h]
  split
  · simp
  · simp
theorem low_over {u d : Int} (h : Fr u d) : lowU (-d) u = ovU u d ∧ lowD (-d) u = ovD u := by
  have hg : Int.gcd (-d) u = 1 := by rw [Int.neg_gcd, Int.gcd_comm]; exact h.2.2.2.2.2
  obtain ⟨e1, e2⟩ := low_one hg
  rw [e1, e2]
  unfold Fr at h
  unfold ovU ovD
  by_cases h1 : u < 0
  · rw [if_pos (Or.inl h1), if_pos (Or.inl h1), if_pos (by omega), if_pos (by omega)]; omega
  · by_cases h2 : u = 0
    · have : d = 1 ∨ d ≠ 1 := by omega
      have hd : 0 < d := by omega
      rw [if_pos (Or.inr ⟨h2, by omega⟩), if_pos (Or.inr ⟨h2, by omega⟩), if_pos (by omega), if_pos (by omega)]; omega
    · rw [if_neg (by omega), if_neg (by omega), if_neg (by omega), if_neg (by omega)]; omega
theorem t2z (u : Int) : Int.tmod u 2 = 0 ↔ u % 2 = 0 := by rw [← Int.dvd_iff_tmod_eq_zero, ← Int.dvd_iff_emod_eq_zero]
theorem Fr.odd {u d : Int} (h : Fr u d) : ¬ (u % 2 = 0 ∧ d % 2 = 0) := by
  intro x
  have h1 : (2 : Int) ∣ u := Int.dvd_of_emod_eq_zero x.1
  have h2 : (2 : Int) ∣ d := Int.dvd_of_emod_eq_zero x.2
  have h3 : (2 : Int) ∣ (Int.gcd u d : Int) := Int.dvd_coe_gcd h1 h2
  rw [h.2.2.2.2.2] at h3
  omega
theorem Fr.over {u d : Int} (h : Fr u d) : Fr (ovU u d) (ovD u) := by
  have hn := h.ne
  have hg := h.2.2.2.2.2
  have hc : Int.gcd d u = 1 := by rw [Int.gcd_comm]; exact hg
  unfold Fr at h
  unfold ovU ovD
  by_cases h1 : u ≤ 0
  · rw [if_pos h1, if_pos h1]
    exact ⟨by omega, by omega, by omega, by omega, fun x => by
      have hu : u = 0 := by omega
      subst hu
      rw [Int.gcd_zero_right] at hc
      omega, by rw [Int.gcd_neg]; exact hc⟩
  · rw [if_neg h1, if_neg h1]
    exact ⟨by omega, by omega, by omega, by omega, by omega, by rw [Int.neg_gcd]; exact hc⟩
theorem Fr.neg {u d : Int} (h : Fr u d) (hd : 0 < d) : Fr (-u) d := by
  unfold Fr at h ⊢
  rw [Int.neg_gcd]
  omega
theorem kd_eq (u d : Int) : kd u d = if u % 2 = 0 then 0 else if d % 2 = 0 then 1 else 2 := by
  unfold kd
  simp only [t2z]
theorem kd_over {u d : Int} (h : Fr u d) : kd (ovU u d) (ovD u) = if kd u d = 0 then 1 else if kd u d = 1 then 0 else 2 := by
  have ho := h.odd
  have e1 : (ovU u d) % 2 = 0 ↔ d % 2 = 0 := by unfold ovU; split <;> omega
  have e2 : (ovD u) % 2 = 0 ↔ u % 2 = 0 := by unfold ovD; split <;> omega
  rw [kd_eq, kd_eq]
  simp only [e1, e2]
  by_cases h1 : u % 2 = 0
  · by_cases h2 : d % 2 = 0
    · exact absurd ⟨h1, h2⟩ ho
    · simp [h1, h2]
  · by_cases h2 : d % 2 = 0
    · simp [h1, h2]
    · simp [h1, h2]
theorem kd_plus {u d : Int} (h : Fr u d) : kd (u + d) d = if kd u d = 0 then 2 else if kd u d = 1 then 1 else 0 := by
  have ho := h.odd
  rw [kd_eq, kd_eq]
  by_cases h1 : u % 2 = 0
  · by_cases h2 : d % 2 = 0
    · exact absurd ⟨h1, h2⟩ ho
    · have h3 : ¬ (u + d) % 2 = 0 := by omega
      simp [h1, h2, h3]
  · by_cases h2 : d % 2 = 0
    · have h3 : ¬ (u + d) % 2 = 0 := by omega
      simp [h1, h2, h3]
    · have h3 : (u + d) % 2 = 0 := by omega
      simp [h1, h2, h3]
theorem kd_neg (u d : Int) : kd (-u) d = kd u d := by
  have e : (-u) % 2 = 0 ↔ u % 2 = 0 := by omega
  rw [kd_eq, kd_eq]
  simp only [e]
def endsL (u d : Int) : List Int := if kd u d = 0 then [1, 0, 3, 2] else if kd u d = 1 then [2, 3, 0, 1] else [3, 2, 1, 0]
def pl (u d n : Int) : Int × Int × Bool := if Fr (u + n * d) d then (u + n * d, d, true) else (0, 0, false)
theorem wplus {u d n : Int} (hu : Pt u) (hd : Pt d) (hn : Pt n) : wrap64 (u + wrap64 (n * d)) = u + n * d := by
  have := mulb hn hd
  rw [wmul hn hd]
  unfold Pt at hu
  exact w64 (by omega)
theorem kd_rng (u d : Int) : kd u d = 0 ∨ kd u d = 1 ∨ kd u d = 2 := by
  unfold kd
  split
  · exact Or.inl rfl
  · split
    · exact Or.inr (Or.inl rfl)
    · exact Or.inr (Or.inr rfl)
theorem ltge (a b : Int) : a < b ∨ b ≤ a := by omega
theorem gcd_dvd (u d : Int) : (Int.gcd u d : Int) ∣ u ∧ (Int.gcd u d : Int) ∣ d := ⟨Int.gcd_dvd_left u d, Int.gcd_dvd_right u d⟩
theorem sg_dvd (u d : Int) : sg u d ∣ u ∧ sg u d ∣ d := by
  have h := gcd_dvd u d
  unfold sg
  split
  · exact ⟨Int.neg_dvd.2 h.1, Int.neg_dvd.2 h.2⟩
  · exact h
theorem low_mul (u d : Int) : lowU u d * sg u d = u ∧ lowD u d * sg u d = d :=
  ⟨Int.tdiv_mul_cancel (sg_dvd u d).1, Int.tdiv_mul_cancel (sg_dvd u d).2⟩
theorem low_gcd (u d : Int) (h : ¬(u = 0 ∧ d = 0)) : Int.gcd (lowU u d) (lowD u d) = 1 := by
  have e := low_mul u d
  have g := Int.gcd_mul_right (lowU u d) (sg u d) (lowD u d)
  rw [e.1, e.2] at g
  have hs : (sg u d).natAbs = Int.gcd u d := by unfold sg; split <;> omega
  rw [hs] at g
  have hp := gcd_pos u d h
  have : Int.gcd (lowU u d) (lowD u d) * Int.gcd u d = 1 * Int.gcd u d := by omega
  exact Nat.eq_of_mul_eq_mul_right hp this
theorem low_fr {u d : Int} (hu : Pt u) (hd : Pt d) (h : ¬(u = 0 ∧ d = 0)) : Fr (lowU u d) (lowD u d) := by
  have hg := low_gcd u d h
  have e := low_mul u d
  have b1 := tdiv_le u (sg u d)
  have b2 := tdiv_le d (sg u d)
  have hp := gcd_pos u d h
  have b3 : (lowU u d).natAbs ≤ u.natAbs := b1
  have b4 : (lowD u d).natAbs ≤ d.natAbs := b2
  unfold Pt at hu hd
  have hpos : 0 ≤ lowD u d := by
    rcases ltge (lowD u d) 0 with hl | hl
    · exfalso
      by_cases hd0 : d < 0
      · have hs : sg u d < 0 := by unfold sg; rw [if_pos (Or.inl hd0)]; omega
        have := Int.mul_pos_of_neg_of_neg hl hs
        omega
      · by_cases hdz : d = 0
        · rw [hdz] at e b4
          have : lowD u d = 0 := by rw [hdz]; omega
          omega
        · have hs : 0 < sg u d := by unfold sg; rw [if_neg (by omega)]; omega
          have := Int.mul_neg_of_neg_of_pos hl hs
          omega
    · exact hl
  refine ⟨by omega, by omega, hpos, by omega, ?_, hg⟩
  intro h0
  rw [h0, Int.gcd_zero_right] at hg
  have hd0 : d = 0 := by have := e.2; rw [h0, Int.zero_mul] at this; omega
  have hu0 : u ≠ 0 := fun x => h ⟨x, hd0⟩
  have hU : lowU u d = 1 ∨ lowU u d = -1 := by omega
  rcases hU with hU | hU
  · exact hU
  · exfalso
    have e1 := e.1
    rw [hU] at e1
    by_cases hn : u < 0
    · have : sg u d < 0 := by unfold sg; rw [if_pos (Or.inr ⟨hd0, hn⟩)]; omega
      omega
    · have : 0 < sg u d := by unfold sg; rw [if_neg (by omega)]; omega
      omega
theorem low_cross (u d : Int) : lowU u d * d = u * lowD u d := by
  have e := low_mul u d
  have h1 : lowU u d * d = lowU u d * (lowD u d * sg u d) := by rw [e.2]
  have h2 : u * lowD u d = lowU u d * sg u d * lowD u d := by rw [e.1]
  rw [h1, h2, Int.mul_assoc, Int.mul_comm (sg u d)]
theorem sg_pos_scale (s u d : Int) (hs : 0 < s) : sg (s * u) (s * d) = s * sg u d := by
  unfold sg
  have hg : (Int.gcd (s * u) (s * d) : Int) = s * (Int.gcd u d : Int) := by
    rw [Int.gcd_mul_left]
    have : ((s.natAbs * Int.gcd u d : Nat) : Int) = (s.natAbs : Int) * (Int.gcd u d : Int) := by simp
    rw [this]
    congr 1
    omega
  have c1 : s * d < 0 ↔ d < 0 := by
    constructor
    · intro h
      rcases ltge d 0 with h' | h'
      · exact h'
      · have := Int.mul_nonneg (Int.le_of_lt hs) h'; omega
    · intro h; exact Int.mul_neg_of_pos_of_neg hs h
  have c2 : s * d = 0 ↔ d = 0 := by
    constructor
    · intro h
      rcases Int.mul_eq_zero.mp h with h' | h'
      · omega
      · exact h'
    · intro h; rw [h, Int.mul_zero]
  have c3 : s * u < 0 ↔ u < 0 := by
    constructor
    · intro h
      rcases ltge u 0 with h' | h'
      · exact h'
      · have := Int.mul_nonneg (Int.le_of_lt hs) h'; omega
    · intro h; exact Int.mul_neg_of_pos_of_neg hs h
  simp only [hg, c1, c2, c3]
  split
  · rw [Int.mul_neg]
  · rfl
theorem low_scale (s u d : Int) (hs : 0 < s) : lowU (s * u) (s * d) = lowU u d ∧ lowD (s * u) (s * d) = lowD u d := by
  unfold lowU lowD
  rw [sg_pos_scale s u d hs, Int.mul_tdiv_mul_of_pos _ _ hs, Int.mul_tdiv_mul_of_pos _ _ hs]
  exact ⟨rfl, rfl⟩
theorem low_neg (u d : Int) (h : ¬(u = 0 ∧ d = 0)) : lowU (-u) (-d) = lowU u d ∧ lowD (-u) (-d) = lowD u d := by
  have hs : sg (-u) (-d) = -sg u d := by
    unfold sg
    rw [Int.gcd_neg, Int.neg_gcd]
    by_cases c : d < 0 ∨ (d = 0 ∧ u < 0)
    · rw [if_pos c, if_neg (by omega)]; omega
    · rw [if_neg c, if_pos (by omega)]
  unfold lowU lowD
  rw [hs, Int.tdiv_neg, Int.tdiv_neg, Int.neg_tdiv, Int.neg_tdiv, Int.neg_neg, Int.neg_neg]
  exact ⟨rfl, rfl⟩
theorem Fr.low {u d : Int} (h : Fr u d) : lowU u d = u ∧ lowD u d = d := by
  obtain ⟨e1, e2⟩ := low_one h.2.2.2.2.2
  unfold Fr at h
  rw [if_neg (by omega)] at e1 e2
  exact ⟨e1, e2⟩
theorem over_over {u d : Int} (h : Fr u d) : ovU (ovU u d) (ovD u) = u ∧ ovD (ovU u d) = d := by
  have hg := h.2.2.2.2.2
  unfold Fr at h
  unfold ovU ovD
  by_cases h1 : u ≤ 0
  · simp only [if_pos h1]
    by_cases h2 : d ≤ 0
    · have : u = 1 := h.2.2.2.2.1 (by omega)
      omega
    · rw [if_neg h2, if_neg h2]; omega
  · simp only [if_neg h1]
    rw [if_pos (by omega), if_pos (by omega)]; omega
theorem lt_iff_plus {u d n : Int} (hd : 0 < d) : u * d < (u + n * d) * d ↔ 0 < n := by
  rw [Int.mul_lt_mul_right hd]
  constructor
  · intro h
    rcases ltge 0 n with h' | h'
    · exact h'
    · have := Int.mul_nonneg (show 0 ≤ -n by omega) (Int.le_of_lt hd)
      rw [Int.neg_mul] at this
      omega
  · intro h
    have := Int.mul_pos h hd
    omega
theorem fr_eq {u d u' d' : Int} (h : Fr u d) (h' : Fr u' d') (hd : 0 < d) (hd' : 0 < d') (e : u * d' = u' * d) : u = u' ∧ d = d' := by
  have g1 : Nat.Coprime d.natAbs u.natAbs := by
    have := h.2.2.2.2.2
    rw [Int.gcd_comm] at this
    exact this
  have g2 : Nat.Coprime d'.natAbs u'.natAbs := by
    have := h'.2.2.2.2.2
    rw [Int.gcd_comm] at this
    exact this
  have en : u.natAbs * d'.natAbs = u'.natAbs * d.natAbs := by rw [← Int.natAbs_mul, ← Int.natAbs_mul, e]
  have k1 : d.natAbs ∣ d'.natAbs := Nat.Coprime.dvd_of_dvd_mul_left g1 ⟨u'.natAbs, by rw [en, Nat.mul_comm]⟩
  have k2 : d'.natAbs ∣ d.natAbs := Nat.Coprime.dvd_of_dvd_mul_left g2 ⟨u.natAbs, by rw [← en, Nat.mul_comm]⟩
  have k3 := Nat.dvd_antisymm k1 k2
  have hdd : d = d' := by omega
  subst hdd
  exact ⟨Int.eq_of_mul_eq_mul_right (by omega) e, rfl⟩
def Ls (a b c d : Int) : Prop := Fr a b ∧ Fr c d ∧ 0 < b ∧ 0 < d ∧ a * d < c * b
instance (a b c d : Int) : Decidable (Ls a b c d) := by unfold Ls; exact inferInstance
theorem wtwo {x y z w : Int} (hx : Pt x) (hy : Pt y) (hz : Pt z) (hw : Pt w) : wrap64 (wrap64 (x * y) + wrap64 (z * w)) = x * y + z * w := by
  have h1 := mulb hx hy
  have h2 := mulb hz hw
  rw [wmul hx hy, wmul hz hw]
  exact w64 (by omega)
def Bg (n : Int) : Prop := -2000000000000 ≤ n ∧ n ≤ 2000000000000
theorem two_bg {x y z w : Int} (hx : Pt x) (hy : Pt y) (hz : Pt z) (hw : Pt w) : Bg (x * y + z * w) := by
  have h1 := mulb hx hy
  have h2 := mulb hz hw
  unfold Bg; omega
theorem bg_neg {n : Int} (h : Bg n) : wrap64 (-n) = -n := by unfold Bg at h; exact w64 (by omega)
theorem impl_isPart_ev (n : Int) : impl_isPart.f n = some (decide (Pt n)) := by
  unfold impl_isPart.f Pt
  split
  · exact sd (by omega)
  · exact sf (by omega)
theorem spec_l1In_ev (n a b : Int) : spec_l1In.f n a b = some (decide (a ≤ n ∧ n ≤ b)) := by
  unfold spec_l1In.f
  split
  · exact sd (by omega)
  · exact sf (by omega)
theorem impl_gcd_l0 (n : Nat) : ∀ (k : Nat) (a b : Int), b.natAbs ≤ n → n < k → a.natAbs ≤ 4611686018427387904 → b.natAbs ≤ 4611686018427387904 → impl_gcd.l0 k a b = some (Int.gcd a b : Int) := by
  induction n with
  | zero =>
    intro k a b hb hk ha _
    obtain ⟨k, rfl⟩ : ∃ m, k = m + 1 := ⟨k - 1, by omega⟩
    have hb0 : b = 0 := by omega
    simp only [impl_gcd.l0]
    rw [if_pos hb0, w64 (by omega), hb0, Int.gcd_zero_right]
    unfold mx; congr 1; split <;> omega
  | succ n ih =>
    intro k a b hb hk ha hb'
    obtain ⟨k, rfl⟩ : ∃ m, k = m + 1 := ⟨k - 1, by omega⟩
    simp only [impl_gcd.l0]
    by_cases h : b = 0
    · rw [if_pos h, w64 (by omega), h, Int.gcd_zero_right]
      unfold mx; congr 1; split <;> omega
    · rw [if_neg h]
      have := tmod_lt a b h
      rw [ih k b (Int.tmod a b) (by omega) (by omega) (by omega) (by omega), gcd_step]
theorem impl_gcd_ev (k : Nat) (hk : 1000002 ≤ k) (a b : Int) (ha : Pt a) (hb : Pt b) : impl_gcd.f k a b = some (Int.gcd a b : Int) := by
  unfold Pt at ha hb
  exact impl_gcd_l0 1000001 k a b (by omega) (by omega) (by omega) (by omega)
theorem spec_l1Common_l0 (n : Nat) : ∀ (k : Nat) (a b : Int), 0 ≤ a → 0 ≤ b → b.natAbs ≤ n → n < k → spec_l1Common.l0 k a b = some (Int.gcd a b : Int) := by
  induction n with
  | zero =>
    intro k a b ha hb0 hb hk
    obtain ⟨k, rfl⟩ : ∃ m, k = m + 1 := ⟨k - 1, by omega⟩
    have hb0 : b = 0 := by omega
    subst hb0
    simp only [spec_l1Common.l0]
    rw [if_neg (by omega), Int.gcd_zero_right]
    congr 1; omega
  | succ n ih =>
    intro k a b ha hb0 hb hk
    obtain ⟨k, rfl⟩ : ∃ m, k = m + 1 := ⟨k - 1, by omega⟩
    simp only [spec_l1Common.l0]
    by_cases h : b = 0
    · subst h
      rw [if_neg (by omega), Int.gcd_zero_right]
      congr 1; omega
    · rw [if_pos (by omega), if_neg h]
      have := tmod_lt a b h
      have h2 := Int.tmod_nonneg b ha
      rw [ih k b (Int.tmod a b) hb0 h2 (by omega) (by omega), gcd_step]
theorem mx_abs (a : Int) (h : Pt a) : mx a (wrap64 (-a)) = (a.natAbs : Int) := by
  unfold Pt at h
  rw [w64 (by omega)]
  unfold mx; split <;> omega
theorem spec_l1Common_ev (k : Nat) (hk : 1000002 ≤ k) (a b : Int) (ha : Pt a) (hb : Pt b) : spec_l1Common.f k a b = some (Int.gcd a b : Int) := by
  unfold spec_l1Common.f
  rw [mx_abs a ha, mx_abs b hb, spec_l1Common_l0 1000001 k _ _ (by omega) (by omega) (by unfold Pt at hb; omega) (by omega)]
  rfl
theorem impl_isFraction_ev (k : Nat) (hk : 1000002 ≤ k) (u d : Int) : impl_isFraction.f k u d = some (decide (Fr u d)) := by
  unfold impl_isFraction.f
  simp only [impl_isPart_ev, Option.bind_some, decide_eq_true_eq]
  by_cases hu : Pt u
  · rw [if_pos hu]
    by_cases h1 : d < 0
    · rw [if_pos h1]; exact sf (by intro h; unfold Fr at h; omega)
    · rw [if_neg h1]
      by_cases h2 : d > 1000000
      · rw [if_pos h2]; exact sf (by intro h; unfold Fr at h; omega)
      · rw [if_neg h2]
        have hd : Pt d := by unfold Pt; omega
        rw [impl_gcd_ev k hk u d hu hd]
        unfold Pt at hu
        have e : ((Int.gcd u d : Int) == 1) = decide (Int.gcd u d = 1) := by rw [Bool.eq_iff_iff]; simp; omega
        simp only [Option.bind_some, e]
        by_cases h3 : d = 0
        · rw [if_pos h3]
          by_cases h4 : u = 1
          · rw [if_pos h4]; exact sd (by unfold Fr; omega)
          · rw [if_neg h4]; exact sf (by intro h; unfold Fr at h; omega)
        · rw [if_neg h3]; exact sd (by unfold Fr; omega)
  · rw [if_neg hu]; exact sf (by intro h; unfold Fr at h; unfold Pt at hu; omega)
theorem spec_FractionOk_ev (k : Nat) (hk : 1000002 ≤ k) (u d : Int) : spec_FractionOk.f k u d = some (decide (Fr u d)) := by
  unfold spec_FractionOk.f
  simp only [spec_l1In_ev, Option.bind_some, decide_eq_true_eq]
  by_cases hu : -1000000 ≤ u ∧ u ≤ 1000000
  · rw [if_pos hu]
    by_cases hd : 0 ≤ d ∧ d ≤ 1000000
    · rw [if_pos hd, spec_l1Common_ev k hk u d hu (by unfold Pt; omega)]
      simp only [Option.bind_some]
      by_cases h1 : (Int.gcd u d : Int) = 1
      · rw [if_pos h1]
        by_cases h3 : d > 0
        · rw [if_pos h3]; exact st (by unfold Fr; omega)
        · rw [if_neg h3]
          have e : (u == 1) = decide (u = 1) := by rw [Bool.eq_iff_iff]; simp
          rw [e]; exact sd (by unfold Fr; omega)
      · rw [if_neg h1]; exact sf (by intro h; unfold Fr at h; omega)
    · rw [if_neg hd]; exact sf (by intro h; unfold Fr at h; omega)
  · rw [if_neg hu]; exact sf (by intro h; unfold Fr at h; omega)
theorem impl_lowest_ev (k : Nat) (hk : 1000002 ≤ k) (u d : Int) (hu : Pt u) (hd : Pt d) (h : ¬(u = 0 ∧ d = 0)) : impl_lowest.f k u d = some (lowU u d, lowD u d) := by
  unfold impl_lowest.f
  rw [impl_gcd_ev k hk u d hu hd]
  simp only [Option.bind_some]
  have hg := gcd_pos u d h
  have hl := gcd_le_pt u d hu hd
  have e1 : wrap64 (-(Int.gcd u d : Int)) = -(Int.gcd u d : Int) := w64 (by omega)
  unfold lowU lowD sg
  rw [e1]
  simp only [tdiv_w _ _ hu, tdiv_w _ _ hd]
  by_cases h1 : d < 0
  · rw [if_pos h1, if_neg (by omega), if_pos (by omega)]
  · rw [if_neg h1]
    by_cases h2 : d = 0
    · rw [if_pos h2]
      by_cases h3 : u < 0
      · rw [if_pos h3, if_neg (by omega), if_pos (by omega)]
      · rw [if_neg h3, if_neg (by omega), if_neg (by omega)]
    · rw [if_neg h2, if_neg (by omega), if_neg (by omega)]
theorem impl_lowest_over (k : Nat) (hk : 1000002 ≤ k) {u d : Int} (h : Fr u d) : impl_lowest.f k (wrap64 (-d)) u = some (ovU u d, ovD u) := by
  rw [h.wn, impl_lowest_ev k hk _ _ h.pn h.pu h.ne, (low_over h).1, (low_over h).2]
theorem spec_LowestOf_ev (k : Nat) (hk : 1000003 ≤ k) (u d : Int) : spec_LowestOf.f k u d = some (if Pt u ∧ Pt d ∧ ¬(u = 0 ∧ d = 0) then (lowU u d, lowD u d, true) else (0, 0, false)) := by
  obtain ⟨k, rfl⟩ : ∃ m, k = m + 1 := ⟨k - 1, by omega⟩
  have jt : spec_LowestOf.j0 (k + 1) u d true = some (0, 0, false) := by simp only [spec_LowestOf.j0]; rw [if_pos trivial]
  have jf : Pt u → Pt d → ¬(u = 0 ∧ d = 0) → spec_LowestOf.j0 (k + 1) u d false = some (lowU u d, lowD u d, true) := by
    intro hu hd h
    simp only [spec_LowestOf.j0]
    rw [if_neg (by simp), spec_l1Common_ev k (by omega) u d hu hd]
    simp only [Option.bind_some]
    have hg := gcd_pos u d h
    have hl := gcd_le_pt u d hu hd
    have e1 : wrap64 (-(Int.gcd u d : Int)) = -(Int.gcd u d : Int) := w64 (by omega)
    unfold lowU lowD sg
    rw [e1]
    simp only [tdiv_w _ _ hu, tdiv_w _ _ hd]
    by_cases h1 : d < 0
    · rw [if_pos h1, if_neg (by omega), if_pos (by omega)]
    · rw [if_neg h1]
      by_cases h2 : d = 0
      · rw [if_pos h2]
        by_cases h3 : u < 0
        · rw [if_pos h3, if_neg (by omega), if_pos (by omega)]
        · rw [if_neg h3, if_neg (by omega), if_neg (by omega)]
      · rw [if_neg h2, if_neg (by omega), if_neg (by omega)]
  have pt : ∀ n : Int, (-1000000 ≤ n ∧ n ≤ 1000000) ↔ Pt n := fun n => Iff.rfl
  unfold spec_LowestOf.f
  simp only [spec_l1In_ev, Option.bind_some, decide_eq_true_eq, pt]
  by_cases hu : Pt u
  · rw [if_pos hu]
    by_cases hd : Pt d
    · rw [if_pos hd]
      by_cases h : u = 0 ∧ d = 0
      · rw [if_pos h.1, if_neg (fun x => x.2.2 h)]
        have : (d == 0) = true := by simpa using h.2
        rw [this]; exact jt
      · have hp : Pt u ∧ Pt d ∧ ¬(u = 0 ∧ d = 0) := ⟨hu, hd, h⟩
        rw [if_pos hp]
        by_cases h1 : u = 0
        · rw [if_pos h1]
          have : (d == 0) = false := by simpa using (by omega : ¬ d = 0)
          rw [this]; exact jf hu hd h
        · rw [if_neg h1]; exact jf hu hd h
    · rw [if_neg hd, if_neg (fun x => hd x.2.1)]; exact jt
  · rw [if_neg hu, if_neg (fun x => hu x.1)]; exact jt
theorem laws_toFraction_ev (a b : Int) : laws_toFraction.f a b = some (a, b) := rfl
theorem spec_OverOf_ev (k : Nat) (hk : 1000003 ≤ k) (u d : Int) : spec_OverOf.f k u d = some (if Fr u d then (ovU u d, ovD u) else (0, 0)) := by
  unfold spec_OverOf.f
  simp only [spec_FractionOk_ev k (by omega), Option.bind_some, decide_eq_true_eq]
  by_cases h : Fr u d
  · rw [if_pos h, if_pos h, h.wn, spec_LowestOf_ev k hk, if_pos ⟨h.pn, h.pu, h.ne⟩]
    simp only [Option.bind_some, (low_over h).1, (low_over h).2]
  · rw [if_neg h, if_neg h]
theorem spec_PlusOf_ev (k : Nat) (hk : 1000002 ≤ k) (u d n : Int) : spec_PlusOf.f k u d n = some (if Fr u d ∧ Pt n then pl u d n else (0, 0, false)) := by
  have pt : ∀ n : Int, (-1000000 ≤ n ∧ n ≤ 1000000) ↔ Pt n := fun n => Iff.rfl
  unfold spec_PlusOf.f
  simp only [spec_FractionOk_ev k hk, spec_l1In_ev, Option.bind_some, decide_eq_true_eq, pt]
  by_cases h : Fr u d
  · rw [if_pos h]
    by_cases hn : Pt n
    · have hp : Fr u d ∧ Pt n := ⟨h, hn⟩
      rw [if_pos hn, if_pos hp, wplus h.pu h.pd hn]
      unfold pl
      split <;> rfl
    · rw [if_neg hn, if_neg (fun x => hn x.2)]
  · rw [if_neg h, if_neg (fun x => h x.1)]
theorem impl_isSmall_ev (k : Nat) (hk : 1000002 ≤ k) (u d n : Int) (hn : 0 ≤ n ∧ n ≤ 1000000) : impl_isSmall.f k u d n = some (decide (Fr u d ∧ -n ≤ u ∧ u ≤ n ∧ d ≤ n)) := by
  unfold impl_isSmall.f
  rw [impl_isFraction_ev k hk, w64 (by omega)]
  simp only [Option.bind_some, decide_eq_true_eq]
  by_cases h : Fr u d
  · rw [if_pos h]
    by_cases h1 : u ≥ -n
    · rw [if_pos h1]
      by_cases h2 : u ≤ n
      · rw [if_pos h2]; exact sd ⟨fun x => ⟨h, h1, h2, x⟩, fun x => x.2.2.2⟩
      · rw [if_neg h2]; exact sf (fun x => h2 x.2.2.1)
    · rw [if_neg h1]; exact sf (fun x => h1 x.2.1)
  · rw [if_neg h]; exact sf (fun x => h x.1)
def ofL (l : List UInt8) : ByteArray := ⟨l.toArray⟩
theorem ofL_size (l : List UInt8) : (ofL l).size = l.length := by simp [ofL, ByteArray.size]
theorem ofL_app (l m : List UInt8) : ofL l ++ ofL m = ofL (l ++ m) := by
  apply ByteArray.ext; simp [ofL]
theorem ofL_data (l : List UInt8) : (ofL l).data.toList = l := by simp [ofL]
def unL : Nat → Int → Int → List UInt8
  | 0, _, _ => []
  | n + 1, u, d => if u = 0 then [] else if u < 0 then 84 :: unL n (u + d) d else 82 :: unL n (ovU u d) (ovD u)
def Sm (u d : Int) : Prop := Fr u d ∧ -12 ≤ u ∧ u ≤ 12 ∧ d ≤ 12
def Mu (u d : Int) : Int := if u = 0 then 0 else if u < 0 then 30 * d - u + 1 else 30 * u + d + 2
theorem Sm.t {u d : Int} (h : Sm u d) (hu : u < 0) : Sm (u + d) d ∧ 0 ≤ Mu (u + d) d ∧ Mu (u + d) d < Mu u d := by
  obtain ⟨hf, h1, h2, h3⟩ := h
  have hg := hf.2.2.2.2.2
  have hd : 0 < d := by unfold Fr at hf; omega
  refine ⟨⟨?_, by omega, by omega, h3⟩, ?_⟩
  · unfold Fr at hf ⊢
    have e := Int.gcd_add_mul_right_left d u 1
    rw [Int.one_mul] at e
    exact ⟨by omega, by omega, by omega, by omega, by omega, by rw [e]; exact hg⟩
  · unfold Mu
    rw [if_neg (by omega : ¬ u = 0), if_pos hu]
    by_cases c1 : u + d = 0
    · rw [if_pos c1]; omega
    · rw [if_neg c1]
      by_cases c2 : u + d < 0
      · rw [if_pos c2]; omega
      · rw [if_neg c2]; omega
theorem Sm.r {u d : Int} (h : Sm u d) (hu : 0 < u) : Sm (ovU u d) (ovD u) ∧ 0 ≤ Mu (ovU u d) (ovD u) ∧ Mu (ovU u d) (ovD u) < Mu u d := by
  obtain ⟨hf, h1, h2, h3⟩ := h
  have hd : 0 ≤ d := hf.2.2.1
  have ho := hf.over
  have e1 : ovU u d = -d := by unfold ovU; rw [if_neg (by omega)]
  have e2 : ovD u = u := by unfold ovD; rw [if_neg (by omega)]
  rw [e1, e2] at ho ⊢
  refine ⟨⟨ho, by omega, by omega, by omega⟩, ?_⟩
  unfold Mu
  rw [if_neg (by omega : ¬ u = 0), if_neg (by omega : ¬ u < 0)]
  by_cases c1 : -d = 0
  · rw [if_pos c1]; omega
  · rw [if_neg c1, if_pos (by omega)]; omega
theorem Sm.mu {u d : Int} (h : Sm u d) : 0 ≤ Mu u d ∧ Mu u d ≤ 400 := by
  obtain ⟨hf, h1, h2, h3⟩ := h
  have hd : 0 ≤ d := hf.2.2.1
  unfold Mu
  split
  · omega
  · split <;> omega
theorem impl_untied_l0 (n : Nat) : ∀ (k : Nat) (l : List UInt8) (u d : Int), 1000010 + n ≤ k → Sm u d → Mu u d < n → l.length + n ≤ 100000 → impl_untied.l0 k (ofL l) u d = some (ofL (l ++ unL n u d)) := by
  induction n with
  | zero => intro k l u d hk hs hm; have := hs.mu; omega
  | succ n ih =>
    intro k l u d hk hs hm hl
    obtain ⟨k, rfl⟩ : ∃ m, k = m + 1 := ⟨k - 1, by omega⟩
    simp only [impl_untied.l0, unL]
    by_cases h0 : u = 0
    · rw [if_pos h0, if_pos h0]; simp
    · rw [if_neg h0, if_neg h0]
      have hsz := ofL_size l
      by_cases h1 : u < 0
      · rw [if_pos h1, if_pos h1, if_pos (by omega)]
        obtain ⟨s1, s2, s3⟩ := hs.t h1
        have e : ofL l ++ (⟨#[84]⟩ : ByteArray) = ofL (l ++ [84]) := ofL_app l [84]
        have q1 := hs.2.1
        have q2 := hs.1.2.2.1
        have q3 := hs.2.2.2
        rw [e, w64 (by omega), ih k _ _ _ (by omega) s1 (by omega) (by simp; omega)]
        simp
      · rw [if_neg h1, if_neg h1, if_pos (by omega)]
        obtain ⟨s1, s2, s3⟩ := hs.r (by omega)
        have e : ofL l ++ (⟨#[82]⟩ : ByteArray) = ofL (l ++ [82]) := ofL_app l [82]
        rw [impl_lowest_over k (by omega) hs.1]
        simp only [Option.bind_some]
        rw [e, ih k _ _ _ (by omega) s1 (by omega) (by simp; omega)]
        simp
theorem spec_untied_l0 (n : Nat) : ∀ (k : Nat) (l : List UInt8) (u d : Int), 1000010 + n ≤ k → Sm u d → Mu u d < n → l.length + n ≤ 100000 → spec_UntiedOf.l0 k (ofL l) u d = some (ofL (l ++ unL n u d), true) := by
  induction n with
  | zero => intro k l u d hk hs hm; have := hs.mu; omega
  | succ n ih =>
    intro k l u d hk hs hm hl
    obtain ⟨k, rfl⟩ : ∃ m, k = m + 1 := ⟨k - 1, by omega⟩
    simp only [spec_UntiedOf.l0, unL]
    by_cases h0 : u = 0
    · rw [if_pos h0, if_pos h0]; simp
    · rw [if_neg h0, if_neg h0]
      have hsz := ofL_size l
      by_cases h1 : u < 0
      · rw [if_pos h1, if_pos h1]
        obtain ⟨s1, s2, s3⟩ := hs.t h1
        have e : ofL l ++ (⟨#[84]⟩ : ByteArray) = ofL (l ++ [84]) := ofL_app l [84]
        have hp : Fr u d ∧ Pt 1 := ⟨hs.1, by decide⟩
        rw [spec_PlusOf_ev k (by omega), if_pos hp]
        unfold pl
        rw [Int.one_mul, if_pos s1.1]
        simp only [Option.bind_some]
        rw [if_pos (by omega), e, ih k _ _ _ (by omega) s1 (by omega) (by simp; omega)]
        simp
      · rw [if_neg h1, if_neg h1]
        obtain ⟨s1, s2, s3⟩ := hs.r (by omega)
        have e : ofL l ++ (⟨#[82]⟩ : ByteArray) = ofL (l ++ [82]) := ofL_app l [82]
        rw [spec_OverOf_ev k (by omega), if_pos hs.1]
        simp only [Option.bind_some]
        rw [if_pos (by omega), e, ih k _ _ _ (by omega) s1 (by omega) (by simp; omega)]
        simp
def unW (u d : Int) : List UInt8 := unL 401 u d
instance (u d : Int) : Decidable (Sm u d) := by unfold Sm; exact inferInstance
theorem impl_untied_ev (k : Nat) (hk : 1000500 ≤ k) (u d : Int) (h : Sm u d) : impl_untied.f k u d = some (ofL (unW u d)) := by
  unfold impl_untied.f
  have := impl_untied_l0 401 k [] u d (by omega) h (by have := h.mu; omega) (by simp)
  exact this
theorem spec_UntiedOf_ev (k : Nat) (hk : 1000500 ≤ k) (u d : Int) : spec_UntiedOf.f k u d = some (if Sm u d then (ofL (unW u d), true) else (ofL [], false)) := by
  unfold spec_UntiedOf.f
  obtain ⟨k, rfl⟩ : ∃ m, k = m + 1 := ⟨k - 1, by omega⟩
  have jt : spec_UntiedOf.j0 (k + 1) true u d = some (ofL [], false) := by simp only [spec_UntiedOf.j0]; rw [if_pos trivial]; rfl
  simp only [spec_FractionOk_ev (k + 1) (by omega), spec_l1In_ev, Option.bind_some, decide_eq_true_eq]
  by_cases h1 : Fr u d
  · rw [if_pos h1]
    by_cases h2 : -12 ≤ u ∧ u ≤ 12
    · rw [if_pos h2]
      by_cases h3 : d > 12
      · rw [decide_eq_true h3, jt, if_neg (by intro x; have := x.2.2.2; omega)]
      · have hs : Sm u d := ⟨h1, h2.1, h2.2, by omega⟩
        rw [decide_eq_false h3, if_pos hs]
        simp only [spec_UntiedOf.j0]
        rw [if_neg (by simp)]
        have := spec_untied_l0 401 k [] u d (by omega) hs (by have := hs.mu; omega) (by simp)
        exact this
    · rw [if_neg h2, jt, if_neg (fun x => h2 ⟨x.2.1, x.2.2.1⟩)]
  · rw [if_neg h1, jt, if_neg (fun x => h1 x.1)]
theorem impl_StepsOf_ev (k : Nat) (hk : 1000500 ≤ k) (u d : Int) : impl_StepsOf.f k u d = some (if Sm u d then ((unW u d).length : Int) else -1) := by
  unfold impl_StepsOf.f
  rw [impl_isSmall_ev k (by omega) u d 12 (by omega)]
  simp only [Option.bind_some, decide_eq_true_eq]
  have e : (Fr u d ∧ -12 ≤ u ∧ u ≤ 12 ∧ d ≤ 12) ↔ Sm u d := Iff.rfl
  simp only [e]
  by_cases h : Sm u d
  · rw [if_pos h, if_pos h, impl_untied_ev k hk u d h]; simp [ofL_size]
  · rw [if_neg h, if_neg h]
theorem spec_StepsOf_ev (k : Nat) (hk : 1000500 ≤ k) (u d : Int) : spec_StepsOf.f k u d = some (if Sm u d then ((unW u d).length : Int) else -1) := by
  unfold spec_StepsOf.f
  rw [spec_UntiedOf_ev k hk]
  by_cases h : Sm u d
  · rw [if_pos h, if_pos h]; simp [ofL_size]
  · rw [if_neg h, if_neg h]; rfl
theorem FnExactStepsOf : ∀ (a0_0 : Int) (a0_1 : Int), (Lit.int .i64 a0_0).wf = true → (Lit.int .i64 a0_1).wf = true → ∃ k, laws_FnExactStepsOf.f k a0_0 a0_1 = some true := by
  intro a b _ _
  refine ⟨1000500, ?_⟩
  unfold laws_FnExactStepsOf.f
  simp only [laws_toFraction_ev, Option.bind_some]
  rw [spec_StepsOf_ev _ (by omega), impl_StepsOf_ev _ (by omega)]
  simp
end Go.Proofs.Ytmckeejjddablaa.Pure
