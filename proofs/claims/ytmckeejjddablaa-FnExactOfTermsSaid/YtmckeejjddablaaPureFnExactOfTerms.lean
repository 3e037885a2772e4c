/- The pure part of the law FnExactOfTerms: the printed law answers true at all lists of numbers of 64 bits. No conditions. -/
import Derived.Test.YtmckeejjddablaaPFnExactOfTermsx7
import Derived.OpenShut
namespace Go.Proofs.Ytmckeejjddablaa.Pure
open Go.RowKit Go.Proofs.Ytmckeejjddablaa.PFnExactOfTerms Go.Proofs.YtmckeejjddablaaW.PrintWords Go.Proofs.YtmckeejjddablaaW.PrintLast Go.Proofs.YtmckeejjddablaaW.PrintMore
set_option linter.unusedVariables false
set_option linter.unusedSimpArgs false
theorem st {P : Prop} [Decidable P] (h : P) : some true = some (decide P) := by simp [h]
theorem sf {P : Prop} [Decidable P] (h : ¬P) : some false = some (decide P) := by simp [h]
theorem sd {P Q : Prop} [Decidable P] [Decidable Q] (h : P ↔ Q) : some (decide P) = some (decide Q) := by simp [h]
theorem w64 {n : Int} (h : -9223372036854775808 ≤ n ∧ n ≤ 9223372036854775807) : wrap64 n = n := by unfold wrap64; omega
def kd (u d : Int) : Int := if Int.tmod u 2 = 0 then 0 else if Int.tmod d 2 = 0 then 1 else 2
def Fr (u d : Int) : Prop := -1000000 ≤ u ∧ u ≤ 1000000 ∧ 0 ≤ d ∧ d ≤ 1000000 ∧ (d = 0 → u = 1) ∧ (Int.gcd u d = 1)
instance (u d : Int) : Decidable (Fr u d) := by unfold Fr; exact inferInstance
def Pt (n : Int) : Prop := -1000000 ≤ n ∧ n ≤ 1000000
instance (n : Int) : Decidable (Pt n) := by unfold Pt; exact inferInstance
theorem gcd_step (a b : Int) : Int.gcd b (Int.tmod a b) = Int.gcd a b := by
  unfold Int.gcd
  rw [Int.natAbs_tmod, Nat.gcd_comm a.natAbs b.natAbs, Nat.gcd_rec b.natAbs a.natAbs, Nat.gcd_comm]
theorem tmod_lt (a b : Int) (h : b ≠ 0) : (Int.tmod a b).natAbs < b.natAbs := by
  rw [Int.natAbs_tmod]
  exact Nat.mod_lt _ (by omega)
theorem tdiv_le (a b : Int) : (Int.tdiv a b).natAbs ≤ a.natAbs := by
  rw [Int.natAbs_tdiv]
  exact Nat.div_le_self _ _
theorem tdiv_w (a b : Int) (h : -1000000 ≤ a ∧ a ≤ 1000000) : wrap64 (Int.tdiv a b) = Int.tdiv a b := by
  have := tdiv_le a b
  exact w64 (by omega)
theorem gcd_le_pt (a b : Int) (ha : Pt a) (hb : Pt b) : (Int.gcd a b : Int) ≤ 1000000 := by
  unfold Pt at ha hb
  by_cases h : a = 0
  · subst h
    rw [Int.zero_gcd]
    omega
  · have := Int.gcd_le_natAbs_left b h
    omega
theorem gcd_pos (a b : Int) (h : ¬(a = 0 ∧ b = 0)) : 0 < Int.gcd a b := by
  rcases Nat.eq_zero_or_pos (Int.gcd a b) with h' | h'
  · exact absurd (Int.gcd_eq_zero_iff.mp h') h
  · exact h'
def sg (u d : Int) : Int := if d < 0 ∨ (d = 0 ∧ u < 0) then -(Int.gcd u d : Int) else (Int.gcd u d : Int)
def lowU (u d : Int) : Int := Int.tdiv u (sg u d)
def lowD (u d : Int) : Int := Int.tdiv d (sg u d)
theorem sg_ne (u d : Int) (h : ¬(u = 0 ∧ d = 0)) : sg u d ≠ 0 := by
  have := gcd_pos u d h
  unfold sg
  split <;> omega
theorem mulb {a b : Int} (ha : Pt a) (hb : Pt b) : -1000000000000 ≤ a * b ∧ a * b ≤ 1000000000000 := by
  unfold Pt at ha hb
  have h1 : a.natAbs ≤ 1000000 := by omega
  have h2 : b.natAbs ≤ 1000000 := by omega
  have := Nat.mul_le_mul h1 h2
  rw [← Int.natAbs_mul] at this
  omega
theorem wmul {a b : Int} (ha : Pt a) (hb : Pt b) : wrap64 (a * b) = a * b := by
  have := mulb ha hb
  exact w64 (by omega)
theorem Fr.pu {u d : Int} (h : Fr u d) : Pt u := ⟨h.1, h.2.1⟩
theorem Fr.pd {u d : Int} (h : Fr u d) : Pt d := by unfold Fr at h; unfold Pt; omega
theorem Fr.ne {u d : Int} (h : Fr u d) : ¬(-d = 0 ∧ u = 0) := by
  unfold Fr at h; omega
theorem Fr.wn {u d : Int} (h : Fr u d) : wrap64 (-d) = -d := by
  unfold Fr at h; exact w64 (by omega)
theorem Fr.pn {u d : Int} (h : Fr u d) : Pt (-d) := by
  unfold Fr at h; unfold Pt; omega
def ovU (u d : Int) : Int := if u ≤ 0 then d else -d
def ovD (u : Int) : Int := if u ≤ 0 then -u else u
theorem low_one {u d : Int} (h : Int.gcd u d = 1) : lowU u d = (if d < 0 ∨ (d = 0 ∧ u < 0) then -u else u) ∧ lowD u d = (if d < 0 ∨ (d = 0 ∧ u < 0) then -d else d) := by
  unfold lowU lowD sg
  rw [h]
  split
  · simp
  · simp
theorem low_over {u d : Int} (h : Fr u d) : lowU (-d) u = ovU u d ∧ lowD (-d) u = ovD u := by
  have hg : Int.gcd (-d) u = 1 := by rw [Int.neg_gcd, Int.gcd_comm]; exact h.2.2.2.2.2
  obtain ⟨e1, e2⟩ := low_one hg
  rw [e1, e2]
  unfold Fr at h
  unfold ovU ovD
  by_cases h1 : u < 0
  · rw [if_pos (Or.inl h1), if_pos (Or.inl h1), if_pos (by omega), if_pos (by omega)]; omega
  · by_cases h2 : u = 0
    · have : d = 1 ∨ d ≠ 1 := by omega
      have hd : 0 < d := by omega
      rw [if_pos (Or.inr ⟨h2, by omega⟩), if_pos (Or.inr ⟨h2, by omega⟩), if_pos (by omega), if_pos (by omega)]; omega
    · rw [if_neg (by omega), if_neg (by omega), if_neg (by omega), if_neg (by omega)]; omega
theorem t2z (u : Int) : Int.tmod u 2 = 0 ↔ u % 2 = 0 := by rw [← Int.dvd_iff_tmod_eq_zero, ← Int.dvd_iff_emod_eq_zero]
theorem Fr.odd {u d : Int} (h : Fr u d) : ¬ (u % 2 = 0 ∧ d % 2 = 0) := by
  intro x
  have h1 : (2 : Int) ∣ u := Int.dvd_of_emod_eq_zero x.1
  have h2 : (2 : Int) ∣ d := Int.dvd_of_emod_eq_zero x.2
  have h3 : (2 : Int) ∣ (Int.gcd u d : Int) := Int.dvd_coe_gcd h1 h2
  rw [h.2.2.2.2.2] at h3
  omega
theorem Fr.over {u d : Int} (h : Fr u d) : Fr (ovU u d) (ovD u) := by
  have hn := h.ne
  have hg := h.2.2.2.2.2
  have hc : Int.gcd d u = 1 := by rw [Int.gcd_comm]; exact hg
  unfold Fr at h
  unfold ovU ovD
  by_cases h1 : u ≤ 0
  · rw [if_pos h1, if_pos h1]
    exact ⟨by omega, by omega, by omega, by omega, fun x => by
      have hu : u = 0 := by omega
      subst hu
      rw [Int.gcd_zero_right] at hc
      omega, by rw [Int.gcd_neg]; exact hc⟩
  · rw [if_neg h1, if_neg h1]
    exact ⟨by omega, by omega, by omega, by omega, by omega, by rw [Int.neg_gcd]; exact hc⟩
theorem Fr.neg {u d : Int} (h : Fr u d) (hd : 0 < d) : Fr (-u) d := by
  unfold Fr at h ⊢
  rw [Int.neg_gcd]
  omega
theorem kd_eq (u d : Int) : kd u d = if u % 2 = 0 then 0 else if d % 2 = 0 then 1 else 2 := by
  unfold kd
  simp only [t2z]
theorem kd_over {u d : Int} (h : Fr u d) : kd (ovU u d) (ovD u) = if kd u d = 0 then 1 else if kd u d = 1 then 0 else 2 := by
  have ho := h.odd
  have e1 : (ovU u d) % 2 = 0 ↔ d % 2 = 0 := by unfold ovU; split <;> omega
  have e2 : (ovD u) % 2 = 0 ↔ u % 2 = 0 := by unfold ovD; split <;> omega
  rw [kd_eq, kd_eq]
  simp only [e1, e2]
  by_cases h1 : u % 2 = 0
  · by_cases h2 : d % 2 = 0
    · exact absurd ⟨h1, h2⟩ ho
    · simp [h1, h2]
  · by_cases h2 : d % 2 = 0
    · simp [h1, h2]
    · simp [h1, h2]
theorem kd_plus {u d : Int} (h : Fr u d) : kd (u + d) d = if kd u d = 0 then 2 else if kd u d = 1 then 1 else 0 := by
  have ho := h.odd
  rw [kd_eq, kd_eq]
  by_cases h1 : u % 2 = 0
  · by_cases h2 : d % 2 = 0
    · exact absurd ⟨h1, h2⟩ ho
    · have h3 : ¬ (u + d) % 2 = 0 := by omega
      simp [h1, h2, h3]
  · by_cases h2 : d % 2 = 0
    · have h3 : ¬ (u + d) % 2 = 0 := by omega
      simp [h1, h2, h3]
    · have h3 : (u + d) % 2 = 0 := by omega
      simp [h1, h2, h3]
theorem kd_neg (u d : Int) : kd (-u) d = kd u d := by
  have e : (-u) % 2 = 0 ↔ u % 2 = 0 := by omega
  rw [kd_eq, kd_eq]
  simp only [e]
def endsL (u d : Int) : List Int := if kd u d = 0 then [1, 0, 3, 2] else if kd u d = 1 then [2, 3, 0, 1] else [3, 2, 1, 0]
def pl (u d n : Int) : Int × Int × Bool := if Fr (u + n * d) d then (u + n * d, d, true) else (0, 0, false)
theorem wplus {u d n : Int} (hu : Pt u) (hd : Pt d) (hn : Pt n) : wrap64 (u + wrap64 (n * d)) = u + n * d := by
  have := mulb hn hd
  rw [wmul hn hd]
  unfold Pt at hu
  exact w64 (by omega)
theorem kd_rng (u d : Int) : kd u d = 0 ∨ kd u d = 1 ∨ kd u d = 2 := by
  unfold kd
  split
  · exact Or.inl rfl
  · split
    · exact Or.inr (Or.inl rfl)
    · exact Or.inr (Or.inr rfl)
theorem ltge (a b : Int) : a < b ∨ b ≤ a := by omega
theorem gcd_dvd (u d : Int) : (Int.gcd u d : Int) ∣ u ∧ (Int.gcd u d : Int) ∣ d := ⟨Int.gcd_dvd_left u d, Int.gcd_dvd_right u d⟩
theorem sg_dvd (u d : Int) : sg u d ∣ u ∧ sg u d ∣ d := by
  have h := gcd_dvd u d
  unfold sg
  split
  · exact ⟨Int.neg_dvd.2 h.1, Int.neg_dvd.2 h.2⟩
  · exact h
theorem low_mul (u d : Int) : lowU u d * sg u d = u ∧ lowD u d * sg u d = d :=
  ⟨Int.tdiv_mul_cancel (sg_dvd u d).1, Int.tdiv_mul_cancel (sg_dvd u d).2⟩
theorem low_gcd (u d : Int) (h : ¬(u = 0 ∧ d = 0)) : Int.gcd (lowU u d) (lowD u d) = 1 := by
  have e := low_mul u d
  have g := Int.gcd_mul_right (lowU u d) (sg u d) (lowD u d)
  rw [e.1, e.2] at g
  have hs : (sg u d).natAbs = Int.gcd u d := by unfold sg; split <;> omega
  rw [hs] at g
  have hp := gcd_pos u d h
  have : Int.gcd (lowU u d) (lowD u d) * Int.gcd u d = 1 * Int.gcd u d := by omega
  exact Nat.eq_of_mul_eq_mul_right hp this
theorem low_fr {u d : Int} (hu : Pt u) (hd : Pt d) (h : ¬(u = 0 ∧ d = 0)) : Fr (lowU u d) (lowD u d) := by
  have hg := low_gcd u d h
  have e := low_mul u d
  have b1 := tdiv_le u (sg u d)
  have b2 := tdiv_le d (sg u d)
  have hp := gcd_pos u d h
  have b3 : (lowU u d).natAbs ≤ u.natAbs := b1
  have b4 : (lowD u d).natAbs ≤ d.natAbs := b2
  unfold Pt at hu hd
  have hpos : 0 ≤ lowD u d := by
    rcases ltge (lowD u d) 0 with hl | hl
    · exfalso
      by_cases hd0 : d < 0
      · have hs : sg u d < 0 := by unfold sg; rw [if_pos (Or.inl hd0)]; omega
        have := Int.mul_pos_of_neg_of_neg hl hs
        omega
      · by_cases hdz : d = 0
        · rw [hdz] at e b4
          have : lowD u d = 0 := by rw [hdz]; omega
          omega
        · have hs : 0 < sg u d := by unfold sg; rw [if_neg (by omega)]; omega
          have := Int.mul_neg_of_neg_of_pos hl hs
          omega
    · exact hl
  refine ⟨by omega, by omega, hpos, by omega, ?_, hg⟩
  intro h0
  rw [h0, Int.gcd_zero_right] at hg
  have hd0 : d = 0 := by have := e.2; rw [h0, Int.zero_mul] at this; omega
  have hu0 : u ≠ 0 := fun x => h ⟨x, hd0⟩
  have hU : lowU u d = 1 ∨ lowU u d = -1 := by omega
  rcases hU with hU | hU
  · exact hU
  · exfalso
    have e1 := e.1
    rw [hU] at e1
    by_cases hn : u < 0
    · have : sg u d < 0 := by unfold sg; rw [if_pos (Or.inr ⟨hd0, hn⟩)]; omega
      omega
    · have : 0 < sg u d := by unfold sg; rw [if_neg (by omega)]; omega
      omega
theorem low_cross (u d : Int) : lowU u d * d = u * lowD u d := by
  have e := low_mul u d
  have h1 : lowU u d * d = lowU u d * (lowD u d * sg u d) := by rw [e.2]
  have h2 : u * lowD u d = lowU u d * sg u d * lowD u d := by rw [e.1]
  rw [h1, h2, Int.mul_assoc, Int.mul_comm (sg u d)]
theorem sg_pos_scale (s u d : Int) (hs : 0 < s) : sg (s * u) (s * d) = s * sg u d := by
  unfold sg
  have hg : (Int.gcd (s * u) (s * d) : Int) = s * (Int.gcd u d : Int) := by
    rw [Int.gcd_mul_left]
    have : ((s.natAbs * Int.gcd u d : Nat) : Int) = (s.natAbs : Int) * (Int.gcd u d : Int) := by simp
    rw [this]
    congr 1
    omega
  have c1 : s * d < 0 ↔ d < 0 := by
    constructor
    · intro h
      rcases ltge d 0 with h' | h'
      · exact h'
      · have := Int.mul_nonneg (Int.le_of_lt hs) h'; omega
    · intro h; exact Int.mul_neg_of_pos_of_neg hs h
  have c2 : s * d = 0 ↔ d = 0 := by
    constructor
    · intro h
      rcases Int.mul_eq_zero.mp h with h' | h'
      · omega
      · exact h'
    · intro h; rw [h, Int.mul_zero]
  have c3 : s * u < 0 ↔ u < 0 := by
    constructor
    · intro h
      rcases ltge u 0 with h' | h'
      · exact h'
      · have := Int.mul_nonneg (Int.le_of_lt hs) h'; omega
    · intro h; exact Int.mul_neg_of_pos_of_neg hs h
  simp only [hg, c1, c2, c3]
  split
  · rw [Int.mul_neg]
  · rfl
theorem low_scale (s u d : Int) (hs : 0 < s) : lowU (s * u) (s * d) = lowU u d ∧ lowD (s * u) (s * d) = lowD u d := by
  unfold lowU lowD
  rw [sg_pos_scale s u d hs, Int.mul_tdiv_mul_of_pos _ _ hs, Int.mul_tdiv_mul_of_pos _ _ hs]
  exact ⟨rfl, rfl⟩
theorem low_neg (u d : Int) (h : ¬(u = 0 ∧ d = 0)) : lowU (-u) (-d) = lowU u d ∧ lowD (-u) (-d) = lowD u d := by
  have hs : sg (-u) (-d) = -sg u d := by
    unfold sg
    rw [Int.gcd_neg, Int.neg_gcd]
    by_cases c : d < 0 ∨ (d = 0 ∧ u < 0)
    · rw [if_pos c, if_neg (by omega)]; omega
    · rw [if_neg c, if_pos (by omega)]
  unfold lowU lowD
  rw [hs, Int.tdiv_neg, Int.tdiv_neg, Int.neg_tdiv, Int.neg_tdiv, Int.neg_neg, Int.neg_neg]
  exact ⟨rfl, rfl⟩
theorem Fr.low {u d : Int} (h : Fr u d) : lowU u d = u ∧ lowD u d = d := by
  obtain ⟨e1, e2⟩ := low_one h.2.2.2.2.2
  unfold Fr at h
  rw [if_neg (by omega)] at e1 e2
  exact ⟨e1, e2⟩
theorem over_over {u d : Int} (h : Fr u d) : ovU (ovU u d) (ovD u) = u ∧ ovD (ovU u d) = d := by
  have hg := h.2.2.2.2.2
  unfold Fr at h
  unfold ovU ovD
  by_cases h1 : u ≤ 0
  · simp only [if_pos h1]
    by_cases h2 : d ≤ 0
    · have : u = 1 := h.2.2.2.2.1 (by omega)
      omega
    · rw [if_neg h2, if_neg h2]; omega
  · simp only [if_neg h1]
    rw [if_pos (by omega), if_pos (by omega)]; omega
theorem lt_iff_plus {u d n : Int} (hd : 0 < d) : u * d < (u + n * d) * d ↔ 0 < n := by
  rw [Int.mul_lt_mul_right hd]
  constructor
  · intro h
    rcases ltge 0 n with h' | h'
    · exact h'
    · have := Int.mul_nonneg (show 0 ≤ -n by omega) (Int.le_of_lt hd)
      rw [Int.neg_mul] at this
      omega
  · intro h
    have := Int.mul_pos h hd
    omega
theorem fr_eq {u d u' d' : Int} (h : Fr u d) (h' : Fr u' d') (hd : 0 < d) (hd' : 0 < d') (e : u * d' = u' * d) : u = u' ∧ d = d' := by
  have g1 : Nat.Coprime d.natAbs u.natAbs := by
    have := h.2.2.2.2.2
    rw [Int.gcd_comm] at this
    exact this
  have g2 : Nat.Coprime d'.natAbs u'.natAbs := by
    have := h'.2.2.2.2.2
    rw [Int.gcd_comm] at this
    exact this
  have en : u.natAbs * d'.natAbs = u'.natAbs * d.natAbs := by rw [← Int.natAbs_mul, ← Int.natAbs_mul, e]
  have k1 : d.natAbs ∣ d'.natAbs := Nat.Coprime.dvd_of_dvd_mul_left g1 ⟨u'.natAbs, by rw [en, Nat.mul_comm]⟩
  have k2 : d'.natAbs ∣ d.natAbs := Nat.Coprime.dvd_of_dvd_mul_left g2 ⟨u.natAbs, by rw [← en, Nat.mul_comm]⟩
  have k3 := Nat.dvd_antisymm k1 k2
  have hdd : d = d' := by omega
  subst hdd
  exact ⟨Int.eq_of_mul_eq_mul_right (by omega) e, rfl⟩
def Ls (a b c d : Int) : Prop := Fr a b ∧ Fr c d ∧ 0 < b ∧ 0 < d ∧ a * d < c * b
instance (a b c d : Int) : Decidable (Ls a b c d) := by unfold Ls; exact inferInstance
theorem wtwo {x y z w : Int} (hx : Pt x) (hy : Pt y) (hz : Pt z) (hw : Pt w) : wrap64 (wrap64 (x * y) + wrap64 (z * w)) = x * y + z * w := by
  have h1 := mulb hx hy
  have h2 := mulb hz hw
  rw [wmul hx hy, wmul hz hw]
  exact w64 (by omega)
def Bg (n : Int) : Prop := -2000000000000 ≤ n ∧ n ≤ 2000000000000
theorem two_bg {x y z w : Int} (hx : Pt x) (hy : Pt y) (hz : Pt z) (hw : Pt w) : Bg (x * y + z * w) := by
  have h1 := mulb hx hy
  have h2 := mulb hz hw
  unfold Bg; omega
theorem bg_neg {n : Int} (h : Bg n) : wrap64 (-n) = -n := by unfold Bg at h; exact w64 (by omega)
theorem impl_isPart_ev (n : Int) : impl_isPart.f n = some (decide (Pt n)) := by
  unfold impl_isPart.f Pt
  split
  · exact sd (by omega)
  · exact sf (by omega)
theorem spec_l1In_ev (n a b : Int) : spec_l1In.f n a b = some (decide (a ≤ n ∧ n ≤ b)) := by
  unfold spec_l1In.f
  split
  · exact sd (by omega)
  · exact sf (by omega)
theorem impl_gcd_l0 (n : Nat) : ∀ (k : Nat) (a b : Int), b.natAbs ≤ n → n < k → a.natAbs ≤ 4611686018427387904 → b.natAbs ≤ 4611686018427387904 → impl_gcd.l0 k a b = some (Int.gcd a b : Int) := by
  induction n with
  | zero =>
    intro k a b hb hk ha _
    obtain ⟨k, rfl⟩ : ∃ m, k = m + 1 := ⟨k - 1, by omega⟩
    have hb0 : b = 0 := by omega
    simp only [impl_gcd.l0]
    rw [if_pos hb0, w64 (by omega), hb0, Int.gcd_zero_right]
    unfold mx; congr 1; split <;> omega
  | succ n ih =>
    intro k a b hb hk ha hb'
    obtain ⟨k, rfl⟩ : ∃ m, k = m + 1 := ⟨k - 1, by omega⟩
    simp only [impl_gcd.l0]
    by_cases h : b = 0
    · rw [if_pos h, w64 (by omega), h, Int.gcd_zero_right]
      unfold mx; congr 1; split <;> omega
    · rw [if_neg h]
      have := tmod_lt a b h
      rw [ih k b (Int.tmod a b) (by omega) (by omega) (by omega) (by omega), gcd_step]
theorem impl_gcd_ev (k : Nat) (hk : 1000002 ≤ k) (a b : Int) (ha : Pt a) (hb : Pt b) : impl_gcd.f k a b = some (Int.gcd a b : Int) := by
  unfold Pt at ha hb
  exact impl_gcd_l0 1000001 k a b (by omega) (by omega) (by omega) (by omega)
theorem spec_l1Common_l0 (n : Nat) : ∀ (k : Nat) (a b : Int), 0 ≤ a → 0 ≤ b → b.natAbs ≤ n → n < k → spec_l1Common.l0 k a b = some (Int.gcd a b : Int) := by
  induction n with
  | zero =>
    intro k a b ha hb0 hb hk
    obtain ⟨k, rfl⟩ : ∃ m, k = m + 1 := ⟨k - 1, by omega⟩
    have hb0 : b = 0 := by omega
    subst hb0
    simp only [spec_l1Common.l0]
    rw [if_neg (by omega), Int.gcd_zero_right]
    congr 1; omega
  | succ n ih =>
    intro k a b ha hb0 hb hk
    obtain ⟨k, rfl⟩ : ∃ m, k = m + 1 := ⟨k - 1, by omega⟩
    simp only [spec_l1Common.l0]
    by_cases h : b = 0
    · subst h
      rw [if_neg (by omega), Int.gcd_zero_right]
      congr 1; omega
    · rw [if_pos (by omega), if_neg h]
      have := tmod_lt a b h
      have h2 := Int.tmod_nonneg b ha
      rw [ih k b (Int.tmod a b) hb0 h2 (by omega) (by omega), gcd_step]
theorem mx_abs (a : Int) (h : Pt a) : mx a (wrap64 (-a)) = (a.natAbs : Int) := by
  unfold Pt at h
  rw [w64 (by omega)]
  unfold mx; split <;> omega
theorem spec_l1Common_ev (k : Nat) (hk : 1000002 ≤ k) (a b : Int) (ha : Pt a) (hb : Pt b) : spec_l1Common.f k a b = some (Int.gcd a b : Int) := by
  unfold spec_l1Common.f
  rw [mx_abs a ha, mx_abs b hb, spec_l1Common_l0 1000001 k _ _ (by omega) (by omega) (by unfold Pt at hb; omega) (by omega)]
  rfl
theorem impl_isFraction_ev (k : Nat) (hk : 1000002 ≤ k) (u d : Int) : impl_isFraction.f k u d = some (decide (Fr u d)) := by
  unfold impl_isFraction.f
  simp only [impl_isPart_ev, Option.bind_some, decide_eq_true_eq]
  by_cases hu : Pt u
  · rw [if_pos hu]
    by_cases h1 : d < 0
    · rw [if_pos h1]; exact sf (by intro h; unfold Fr at h; omega)
    · rw [if_neg h1]
      by_cases h2 : d > 1000000
      · rw [if_pos h2]; exact sf (by intro h; unfold Fr at h; omega)
      · rw [if_neg h2]
        have hd : Pt d := by unfold Pt; omega
        rw [impl_gcd_ev k hk u d hu hd]
        unfold Pt at hu
        have e : ((Int.gcd u d : Int) == 1) = decide (Int.gcd u d = 1) := by rw [Bool.eq_iff_iff]; simp; omega
        simp only [Option.bind_some, e]
        by_cases h3 : d = 0
        · rw [if_pos h3]
          by_cases h4 : u = 1
          · rw [if_pos h4]; exact sd (by unfold Fr; omega)
          · rw [if_neg h4]; exact sf (by intro h; unfold Fr at h; omega)
        · rw [if_neg h3]; exact sd (by unfold Fr; omega)
  · rw [if_neg hu]; exact sf (by intro h; unfold Fr at h; unfold Pt at hu; omega)
theorem spec_FractionOk_ev (k : Nat) (hk : 1000002 ≤ k) (u d : Int) : spec_FractionOk.f k u d = some (decide (Fr u d)) := by
  unfold spec_FractionOk.f
  simp only [spec_l1In_ev, Option.bind_some, decide_eq_true_eq]
  by_cases hu : -1000000 ≤ u ∧ u ≤ 1000000
  · rw [if_pos hu]
    by_cases hd : 0 ≤ d ∧ d ≤ 1000000
    · rw [if_pos hd, spec_l1Common_ev k hk u d hu (by unfold Pt; omega)]
      simp only [Option.bind_some]
      by_cases h1 : (Int.gcd u d : Int) = 1
      · rw [if_pos h1]
        by_cases h3 : d > 0
        · rw [if_pos h3]; exact st (by unfold Fr; omega)
        · rw [if_neg h3]
          have e : (u == 1) = decide (u = 1) := by rw [Bool.eq_iff_iff]; simp
          rw [e]; exact sd (by unfold Fr; omega)
      · rw [if_neg h1]; exact sf (by intro h; unfold Fr at h; omega)
    · rw [if_neg hd]; exact sf (by intro h; unfold Fr at h; omega)
  · rw [if_neg hu]; exact sf (by intro h; unfold Fr at h; omega)
theorem impl_lowest_ev (k : Nat) (hk : 1000002 ≤ k) (u d : Int) (hu : Pt u) (hd : Pt d) (h : ¬(u = 0 ∧ d = 0)) : impl_lowest.f k u d = some (lowU u d, lowD u d) := by
  unfold impl_lowest.f
  rw [impl_gcd_ev k hk u d hu hd]
  simp only [Option.bind_some]
  have hg := gcd_pos u d h
  have hl := gcd_le_pt u d hu hd
  have e1 : wrap64 (-(Int.gcd u d : Int)) = -(Int.gcd u d : Int) := w64 (by omega)
  unfold lowU lowD sg
  rw [e1]
  simp only [tdiv_w _ _ hu, tdiv_w _ _ hd]
  by_cases h1 : d < 0
  · rw [if_pos h1, if_neg (by omega), if_pos (by omega)]
  · rw [if_neg h1]
    by_cases h2 : d = 0
    · rw [if_pos h2]
      by_cases h3 : u < 0
      · rw [if_pos h3, if_neg (by omega), if_pos (by omega)]
      · rw [if_neg h3, if_neg (by omega), if_neg (by omega)]
    · rw [if_neg h2, if_neg (by omega), if_neg (by omega)]
theorem impl_lowest_over (k : Nat) (hk : 1000002 ≤ k) {u d : Int} (h : Fr u d) : impl_lowest.f k (wrap64 (-d)) u = some (ovU u d, ovD u) := by
  rw [h.wn, impl_lowest_ev k hk _ _ h.pn h.pu h.ne, (low_over h).1, (low_over h).2]
theorem spec_LowestOf_ev (k : Nat) (hk : 1000003 ≤ k) (u d : Int) : spec_LowestOf.f k u d = some (if Pt u ∧ Pt d ∧ ¬(u = 0 ∧ d = 0) then (lowU u d, lowD u d, true) else (0, 0, false)) := by
  obtain ⟨k, rfl⟩ : ∃ m, k = m + 1 := ⟨k - 1, by omega⟩
  have jt : spec_LowestOf.j0 (k + 1) u d true = some (0, 0, false) := by simp only [spec_LowestOf.j0]; rw [if_pos trivial]
  have jf : Pt u → Pt d → ¬(u = 0 ∧ d = 0) → spec_LowestOf.j0 (k + 1) u d false = some (lowU u d, lowD u d, true) := by
    intro hu hd h
    simp only [spec_LowestOf.j0]
    rw [if_neg (by simp), spec_l1Common_ev k (by omega) u d hu hd]
    simp only [Option.bind_some]
    have hg := gcd_pos u d h
    have hl := gcd_le_pt u d hu hd
    have e1 : wrap64 (-(Int.gcd u d : Int)) = -(Int.gcd u d : Int) := w64 (by omega)
    unfold lowU lowD sg
    rw [e1]
    simp only [tdiv_w _ _ hu, tdiv_w _ _ hd]
    by_cases h1 : d < 0
    · rw [if_pos h1, if_neg (by omega), if_pos (by omega)]
    · rw [if_neg h1]
      by_cases h2 : d = 0
      · rw [if_pos h2]
        by_cases h3 : u < 0
        · rw [if_pos h3, if_neg (by omega), if_pos (by omega)]
        · rw [if_neg h3, if_neg (by omega), if_neg (by omega)]
      · rw [if_neg h2, if_neg (by omega), if_neg (by omega)]
  have pt : ∀ n : Int, (-1000000 ≤ n ∧ n ≤ 1000000) ↔ Pt n := fun n => Iff.rfl
  unfold spec_LowestOf.f
  simp only [spec_l1In_ev, Option.bind_some, decide_eq_true_eq, pt]
  by_cases hu : Pt u
  · rw [if_pos hu]
    by_cases hd : Pt d
    · rw [if_pos hd]
      by_cases h : u = 0 ∧ d = 0
      · rw [if_pos h.1, if_neg (fun x => x.2.2 h)]
        have : (d == 0) = true := by simpa using h.2
        rw [this]; exact jt
      · have hp : Pt u ∧ Pt d ∧ ¬(u = 0 ∧ d = 0) := ⟨hu, hd, h⟩
        rw [if_pos hp]
        by_cases h1 : u = 0
        · rw [if_pos h1]
          have : (d == 0) = false := by simpa using (by omega : ¬ d = 0)
          rw [this]; exact jf hu hd h
        · rw [if_neg h1]; exact jf hu hd h
    · rw [if_neg hd, if_neg (fun x => hd x.2.1)]; exact jt
  · rw [if_neg hu, if_neg (fun x => hu x.1)]; exact jt
theorem laws_eqFraction_ev (a b c d : Int) : laws_eqFraction.f a b c d = some (decide (a = c ∧ b = d)) := by
  unfold laws_eqFraction.f
  by_cases h : a = c
  · rw [if_pos h]
    by_cases h' : b = d
    · rw [if_pos h']; exact st ⟨h, h'⟩
    · rw [if_neg h']; exact sf (fun x => h' x.2)
  · rw [if_neg h]; exact sf (fun x => h x.1)
theorem laws_eqFraction_same (a b : Int) : laws_eqFraction.f a b a b = some true := by rw [laws_eqFraction_ev]; simp
theorem gd {xs : List Int} {j : Nat} (h : j < xs.length) : xs.getD j 0 = xs[j] := by simp [h]
theorem rd_eq (xs : List Int) (i : Int) (h0 : 0 ≤ i) (h : i.toNat < xs.length) : rd xs i = xs[i.toNat] := by unfold rd; simp [h]
theorem laws_toIntS_l0 (x0 : List Int) (hn : x0.length ≤ 1048576) (d : Nat) : ∀ (k : Nat) (x3 : List Int) (i : Int), 0 ≤ i → i + d = x0.length → d < k → x3.length = x0.length → (∀ j : Nat, (j : Int) < i → x3.getD j 0 = x0.getD j 0) → laws_toIntS.l0 k x0 x3 i = some x0 := by
  induction d with
  | zero =>
    intro k x3 i h0 hd hk hl hj
    obtain ⟨k, rfl⟩ : ∃ m, k = m + 1 := ⟨k - 1, by omega⟩
    simp only [laws_toIntS.l0]
    rw [if_neg (by omega)]
    congr 1
    apply List.ext_getElem hl
    intro j h1 h2
    have := hj j (by omega)
    rw [gd h1, gd h2] at this
    exact this
  | succ d ih =>
    intro k x3 i h0 hd hk hl hj
    obtain ⟨k, rfl⟩ : ∃ m, k = m + 1 := ⟨k - 1, by omega⟩
    simp only [laws_toIntS.l0]
    rw [if_pos (by omega), if_pos h0, if_pos (by omega), w64 (by omega)]
    refine ih k _ (i + 1) (by omega) (by omega) (by omega) (by simpa using hl) ?_
    intro j hj'
    by_cases e : j = i.toNat
    · subst e
      have h1 : i.toNat < x3.length := by omega
      have h2 : i.toNat < x0.length := by omega
      rw [gd (by simpa using h1), gd h2, List.getElem_set_self, rd_eq _ _ h0 h2]
    · have := hj j (by omega)
      have h1 : j < x3.length := by omega
      rw [gd (by simpa using h1), List.getElem_set_ne (by omega)]
      rw [gd h1] at this
      exact this
theorem laws_toIntS_ev (k : Nat) (l : List Int) (hk : l.length < k) (hn : l.length ≤ 1048576) : laws_toIntS.f k l = some l := by
  unfold laws_toIntS.f
  rw [if_pos (by omega), if_pos (by omega)]
  exact laws_toIntS_l0 l hn l.length k _ 0 (by omega) (by omega) hk (by simp) (by intro j hj; omega)
theorem laws_eqIntS_l0 (a b : List Int) (hl : a.length = b.length) (hn : a.length ≤ 1048576) (d : Nat) : ∀ (k : Nat) (i : Int), 0 ≤ i → i + d = a.length → d < k → laws_eqIntS.l0 k a b i = some (decide (a.drop i.toNat = b.drop i.toNat)) := by
  induction d with
  | zero =>
    intro k i h0 hd hk
    obtain ⟨k, rfl⟩ : ∃ m, k = m + 1 := ⟨k - 1, by omega⟩
    simp only [laws_eqIntS.l0]
    rw [if_neg (by omega)]
    refine st ?_
    rw [List.drop_eq_nil_of_le (by omega), List.drop_eq_nil_of_le (by omega)]
  | succ d ih =>
    intro k i h0 hd hk
    obtain ⟨k, rfl⟩ : ∃ m, k = m + 1 := ⟨k - 1, by omega⟩
    simp only [laws_eqIntS.l0]
    have h1 : i.toNat < a.length := by omega
    have h2 : i.toNat < b.length := by omega
    rw [if_pos (by omega), if_pos h0, if_pos (by omega), w64 (by omega), ih k (i + 1) (by omega) (by omega) (by omega)]
    have e : (i + 1).toNat = i.toNat + 1 := by omega
    have ra : rd a i = a[i.toNat] := by unfold rd; simp [h1]
    have rb : rd b i = b[i.toNat] := by unfold rd; simp [h2]
    rw [e, ra, rb, List.drop_eq_getElem_cons h1, List.drop_eq_getElem_cons h2]
    by_cases hc : a[i.toNat] = b[i.toNat]
    · rw [if_pos hc]; exact sd (by rw [List.cons.injEq]; exact ⟨fun h => ⟨hc, h⟩, And.right⟩)
    · rw [if_neg hc]; exact sf (by rw [List.cons.injEq]; exact fun h => hc h.1)
theorem laws_eqIntS_ev (k : Nat) (a b : List Int) (hk : a.length < k) (hn : a.length ≤ 1048576) : laws_eqIntS.f k a b = some (decide (a = b)) := by
  unfold laws_eqIntS.f
  by_cases h : a.length = b.length
  · rw [if_pos (by omega), laws_eqIntS_l0 a b h hn a.length k 0 (by omega) (by omega) hk]; simp
  · rw [if_neg (by omega)]; exact sf (fun e => h (by rw [e]))
def t2 (n : Int) : Bool := decide (2 ≤ n ∧ n ≤ 60)
def Tm (l : List Int) : Prop := 1 ≤ l.length ∧ l.length ≤ 60 ∧ -60 ≤ rd l 0 ∧ rd l 0 ≤ 60 ∧ (l.drop 1).all t2 = true
instance (l : List Int) : Decidable (Tm l) := by unfold Tm; exact inferInstance
theorem spec_TermsOk_l0 (l : List Int) (hn : l.length ≤ 1048576) (d : Nat) : ∀ (k : Nat) (i : Int), 0 ≤ i → i + d = l.length → d < k → spec_TermsOk.l0 k l i = some (decide (1 ≤ l.length ∧ l.length ≤ 60 ∧ -60 ≤ rd l 0 ∧ rd l 0 ≤ 60 ∧ (l.drop i.toNat).all t2 = true)) := by
  induction d with
  | zero =>
    intro k i h0 hd hk
    obtain ⟨k, rfl⟩ : ∃ m, k = m + 1 := ⟨k - 1, by omega⟩
    simp only [spec_TermsOk.l0]
    rw [if_neg (by omega), List.drop_eq_nil_of_le (by omega)]
    simp only [spec_l1In_ev, Option.bind_some, decide_eq_true_eq]
    by_cases h : 1 ≤ (l.length : Int) ∧ (l.length : Int) ≤ 60
    · rw [if_pos h, if_pos (by omega)]; exact sd (by simp; omega)
    · rw [if_neg h]; exact sf (by intro x; omega)
  | succ d ih =>
    intro k i h0 hd hk
    obtain ⟨k, rfl⟩ : ∃ m, k = m + 1 := ⟨k - 1, by omega⟩
    simp only [spec_TermsOk.l0]
    have h1 : i.toNat < l.length := by omega
    rw [if_pos (by omega), if_pos h0, w64 (by omega), ih k (i + 1) (by omega) (by omega) (by omega)]
    have e : (i + 1).toNat = i.toNat + 1 := by omega
    have ra : rd l i = l[i.toNat] := by unfold rd; simp [h1]
    rw [e, ra, List.drop_eq_getElem_cons h1]
    simp only [spec_l1In_ev, Option.bind_some, decide_eq_true_eq, List.all_cons, Bool.and_eq_true]
    by_cases hc : 2 ≤ l[i.toNat] ∧ l[i.toNat] ≤ 60
    · rw [if_pos hc]
      have : t2 l[i.toNat] = true := by unfold t2; simpa using hc
      exact sd (by simp [this])
    · rw [if_neg hc]
      have : ¬ t2 l[i.toNat] = true := by unfold t2; simpa using hc
      exact sf (by intro x; exact this x.2.2.2.2.1)
theorem spec_TermsOk_ev (k : Nat) (l : List Int) (hk : l.length + 1 < k) (hn : l.length ≤ 1048576) : spec_TermsOk.f k l = some (decide (Tm l)) := by
  unfold spec_TermsOk.f
  by_cases h : l.length = 0
  · obtain ⟨k, rfl⟩ : ∃ m, k = m + 1 := ⟨k - 1, by omega⟩
    simp only [spec_TermsOk.l0]
    rw [if_neg (by omega), spec_l1In_ev]
    simp only [Option.bind_some, decide_eq_true_eq]
    rw [if_neg (by omega)]
    exact sf (by unfold Tm; omega)
  · rw [spec_TermsOk_l0 l hn (l.length - 1) k 1 (by omega) (by omega) (by omega)]
    exact sd (by unfold Tm; exact Iff.rfl)
theorem impl_areTerms_l0 (l : List Int) (hn : l.length ≤ 1048576) (d : Nat) : ∀ (k : Nat) (i : Int), 1 ≤ i → i + d = l.length → d < k → impl_areTerms.l0 k l l (l.length : Int) i = some (decide (1 ≤ l.length ∧ l.length ≤ 60 ∧ (l.drop i.toNat).all t2 = true)) := by
  induction d with
  | zero =>
    intro k i h0 hd hk
    obtain ⟨k, rfl⟩ : ∃ m, k = m + 1 := ⟨k - 1, by omega⟩
    simp only [impl_areTerms.l0]
    rw [if_neg (by omega), List.drop_eq_nil_of_le (by omega)]
    rw [if_pos (by omega)]; exact sd (by simp; omega)
  | succ d ih =>
    intro k i h0 hd hk
    obtain ⟨k, rfl⟩ : ∃ m, k = m + 1 := ⟨k - 1, by omega⟩
    simp only [impl_areTerms.l0]
    have h1 : i.toNat < l.length := by omega
    rw [if_pos (by omega), if_pos (by omega), if_pos (by omega), w64 (by omega), ih k (i + 1) (by omega) (by omega) (by omega)]
    have e : (i + 1).toNat = i.toNat + 1 := by omega
    have ra : rd l i = l[i.toNat] := by unfold rd; simp [h1]
    rw [e, ra, List.drop_eq_getElem_cons h1, if_neg (by omega : ¬ i = 0), if_pos (by omega : i > 0)]
    simp only [List.all_cons, Bool.and_eq_true]
    by_cases hc : l[i.toNat] > 60
    · rw [if_pos hc]
      have : ¬ t2 l[i.toNat] = true := by intro x; have := of_decide_eq_true x; omega
      exact sf (by intro x; exact this x.2.2.1)
    · rw [if_neg hc]
      by_cases hc' : l[i.toNat] < 2
      · rw [if_pos hc']
        have : ¬ t2 l[i.toNat] = true := by intro x; have := of_decide_eq_true x; omega
        exact sf (by intro x; exact this x.2.2.1)
      · rw [if_neg hc']
        have : t2 l[i.toNat] = true := decide_eq_true (by omega)
        exact sd (by simp [this])
theorem impl_areTerms_ev (k : Nat) (l : List Int) (hk : l.length + 1 < k) (hn : l.length ≤ 1048576) : impl_areTerms.f k l = some (decide (Tm l)) := by
  unfold impl_areTerms.f
  obtain ⟨k, rfl⟩ : ∃ m, k = m + 1 := ⟨k - 1, by omega⟩
  simp only [impl_areTerms.l0]
  by_cases h : l.length = 0
  · rw [if_neg (by omega), if_neg (by omega)]
    exact sf (by unfold Tm; omega)
  · rw [if_pos (by omega), if_pos (by omega), if_pos (by omega), w64 (by omega), impl_areTerms_l0 l hn (l.length - 1) k _ (by omega) (by omega) (by omega)]
    by_cases h1 : rd l 0 > 60
    · rw [if_pos h1]; exact sf (by unfold Tm; omega)
    · rw [if_neg h1, if_pos trivial]
      by_cases h2 : rd l 0 < -60
      · rw [if_pos h2]; exact sf (by unfold Tm; omega)
      · rw [if_neg h2, if_neg (by omega : ¬ (0 : Int) > 0)]
        have e : (0 + 1 : Int).toNat = 1 := rfl
        exact sd (by unfold Tm; rw [e]; constructor <;> (intro x; refine ⟨?_, ?_, ?_⟩ <;> simp_all <;> omega))
theorem spec_OverOf_ev (k : Nat) (hk : 1000003 ≤ k) (u d : Int) : spec_OverOf.f k u d = some (if Fr u d then (ovU u d, ovD u) else (0, 0)) := by
  unfold spec_OverOf.f
  simp only [spec_FractionOk_ev k (by omega), Option.bind_some, decide_eq_true_eq]
  by_cases h : Fr u d
  · rw [if_pos h, if_pos h, h.wn, spec_LowestOf_ev k hk, if_pos ⟨h.pn, h.pu, h.ne⟩]
    simp only [Option.bind_some, (low_over h).1, (low_over h).2]
  · rw [if_neg h, if_neg h]
theorem spec_PlusOf_ev (k : Nat) (hk : 1000002 ≤ k) (u d n : Int) : spec_PlusOf.f k u d n = some (if Fr u d ∧ Pt n then pl u d n else (0, 0, false)) := by
  have pt : ∀ n : Int, (-1000000 ≤ n ∧ n ≤ 1000000) ↔ Pt n := fun n => Iff.rfl
  unfold spec_PlusOf.f
  simp only [spec_FractionOk_ev k hk, spec_l1In_ev, Option.bind_some, decide_eq_true_eq, pt]
  by_cases h : Fr u d
  · rw [if_pos h]
    by_cases hn : Pt n
    · have hp : Fr u d ∧ Pt n := ⟨h, hn⟩
      rw [if_pos hn, if_pos hp, wplus h.pu h.pd hn]
      unfold pl
      split <;> rfl
    · rw [if_neg hn, if_neg (fun x => hn x.2)]
  · rw [if_neg h, if_neg (fun x => h x.1)]
theorem impl_plus_ev (k : Nat) (hk : 1000002 ≤ k) (u d n : Int) (h : Fr u d) (hn : Pt n) : impl_plus.f k u d n = some (pl u d n) := by
  unfold impl_plus.f
  rw [wplus h.pu h.pd hn, impl_isFraction_ev k hk]
  unfold pl
  simp only [Option.bind_some, decide_eq_true_eq]
  split <;> rfl
def oStep (a : Int) (f : Int × Int) : Option (Int × Int) := if Fr (ovU f.1 f.2 + a * ovD f.1) (ovD f.1) then some (ovU f.1 f.2 + a * ovD f.1, ovD f.1) else none
def oT (i : Option (Int × Int)) (l : List Int) : Option (Int × Int) := l.foldr (fun a f => f.bind (oStep a)) i
theorem oT_none (l : List Int) : oT none l = none := by
  induction l with
  | nil => rfl
  | cons a l ih => unfold oT at ih ⊢; rw [List.foldr_cons, ih]; rfl
theorem oT_snoc (i : Option (Int × Int)) (l : List Int) (a : Int) : oT i (l ++ [a]) = oT (i.bind (oStep a)) l := by
  unfold oT; rw [List.foldr_append]; rfl
def oR (o : Option (Int × Int)) : Int × Int × Bool := match o with | some f => (f.1, f.2, true) | none => (0, 0, false)
theorem oStep_pl (a : Int) (f : Int × Int) : pl (ovU f.1 f.2) (ovD f.1) a = oR (oStep a f) := by
  unfold pl oStep
  split
  · rfl
  · rfl
theorem oStep_fr {a : Int} {f g : Int × Int} (h : oStep a f = some g) : Fr g.1 g.2 := by
  unfold oStep at h
  split at h
  · have := Option.some.inj h
    rw [← this]
    assumption
  · cases h
theorem tm_pt {l : List Int} (h : Tm l) (i : Int) (h0 : 0 ≤ i) (h1 : i.toNat < l.length) : Pt (rd l i) := by
  obtain ⟨g1, g2, g3, g4, g5⟩ := h
  by_cases e : i = 0
  · rw [e]; unfold Pt; omega
  · rw [List.all_eq_true] at g5
    have hr : rd l i = l[i.toNat] := by unfold rd; simp [h1]
    have hm : l[i.toNat] ∈ l.drop 1 := by
      rw [List.mem_iff_getElem]
      refine ⟨i.toNat - 1, by simp; omega, ?_⟩
      rw [List.getElem_drop]
      congr 1
      omega
    have := of_decide_eq_true (g5 _ hm)
    rw [hr]; unfold Pt; omega
theorem impl_OfTerms_l0 (l : List Int) (hl : Tm l) (n : Nat) : ∀ (k : Nat) (f : Int × Int), 1000010 + n ≤ k → n ≤ l.length → Fr f.1 f.2 → impl_OfTerms.l0 k l ((n : Int) - 1) f.1 f.2 = some (oR (oT (some f) (l.take n))) := by
  have hl60 := hl.2.1
  induction n with
  | zero =>
    intro k f hk hn hf
    obtain ⟨k, rfl⟩ : ∃ m, k = m + 1 := ⟨k - 1, by omega⟩
    simp only [impl_OfTerms.l0]
    rw [if_neg (by omega)]
    rfl
  | succ n ih =>
    intro k f hk hn hf
    obtain ⟨k, rfl⟩ : ∃ m, k = m + 1 := ⟨k - 1, by omega⟩
    simp only [impl_OfTerms.l0]
    have e : ((n + 1 : Nat) : Int) - 1 = (n : Int) := by omega
    have hn1 : n < l.length := by omega
    have hp := tm_pt hl (n : Int) (by omega) (by omega)
    have hr : rd l (n : Int) = l[n] := by unfold rd; simp [hn1]
    rw [e, if_pos (by omega), impl_lowest_over k (by omega) hf]
    simp only [Option.bind_some]
    rw [if_pos (by omega), if_pos (by omega), impl_plus_ev k (by omega) _ _ _ hf.over hp, hr, oStep_pl]
    simp only [Option.bind_some]
    rw [List.take_succ_eq_append_getElem hn1, oT_snoc]
    simp only [Option.bind_some]
    cases hs : oStep l[n] f with
    | none => rw [oT_none]; rfl
    | some g =>
      have hg := oStep_fr hs
      simp only [oR, if_true]
      rw [w64 (by omega)]
      exact ih k g (by omega) (by omega) hg
theorem impl_OfTerms_ev (k : Nat) (hk : 1000200 ≤ k) (l : List Int) (hn : l.length ≤ 1000000) : impl_OfTerms.f k l = some (if Tm l then oR (oT (some (1, 0)) l) else (0, 0, false)) := by
  unfold impl_OfTerms.f
  rw [impl_areTerms_ev k l (by omega) (by omega)]
  simp only [Option.bind_some, decide_eq_true_eq]
  by_cases h : Tm l
  · have h' := h
    obtain ⟨g1, g2, g3, g4, g5⟩ := h'
    have w1 : wrap64 ((l.length : Int) - 1) = ((l.length - 1 : Nat) : Int) := by rw [w64 (by omega)]; omega
    have w2 : wrap64 ((l.length : Int) - 2) = ((l.length - 1 : Nat) : Int) - 1 := by rw [w64 (by omega)]; omega
    rw [if_pos h, if_pos h, w1, w2, if_pos (by omega), if_pos (by omega)]
    have hp := tm_pt h ((l.length - 1 : Nat) : Int) (by omega) (by omega)
    have hn1 : l.length - 1 < l.length := by omega
    have hr : rd l ((l.length - 1 : Nat) : Int) = l[l.length - 1] := by unfold rd; simp [hn1]
    rw [hr] at hp ⊢
    have hf : Fr l[l.length - 1] 1 := by
      unfold Pt at hp
      exact ⟨by omega, by omega, by omega, by omega, by omega, by simp⟩
    rw [impl_OfTerms_l0 l h (l.length - 1) k (l[l.length - 1], 1) (by omega) (by omega) hf]
    have e : l = l.take (l.length - 1) ++ [l[l.length - 1]] := by
      rw [← List.take_succ_eq_append_getElem hn1]
      rw [List.take_of_length_le (by omega)]
    have es : oStep l[l.length - 1] (1, 0) = some (l[l.length - 1], 1) := by
      have o1 : ovU 1 0 = 0 := by decide
      have o2 : ovD 1 = 1 := by decide
      unfold oStep
      simp only [o1, o2, Int.mul_one, Int.zero_add]
      rw [if_pos hf]
    have : oT (some (1, 0)) l = oT (some (l[l.length - 1], 1)) (l.take (l.length - 1)) := by
      conv => lhs; rw [e]
      rw [oT_snoc]
      simp only [Option.bind_some]
      rw [es]
    rw [this]
  · rw [if_neg h, if_neg h]
theorem spec_OfTerms_l0 (l : List Int) (hl : Tm l) (n : Nat) : ∀ (k : Nat) (f : Int × Int), 1000010 + n ≤ k → n ≤ l.length → Fr f.1 f.2 → spec_OfTerms.l0 k l ((n : Int) - 1) f.1 f.2 = some (oR (oT (some f) (l.take n))) := by
  have hl60 := hl.2.1
  induction n with
  | zero =>
    intro k f hk hn hf
    obtain ⟨k, rfl⟩ : ∃ m, k = m + 1 := ⟨k - 1, by omega⟩
    simp only [spec_OfTerms.l0]
    rw [if_neg (by omega)]
    rfl
  | succ n ih =>
    intro k f hk hn hf
    obtain ⟨k, rfl⟩ : ∃ m, k = m + 1 := ⟨k - 1, by omega⟩
    simp only [spec_OfTerms.l0]
    have e : ((n + 1 : Nat) : Int) - 1 = (n : Int) := by omega
    have hn1 : n < l.length := by omega
    have hp := tm_pt hl (n : Int) (by omega) (by omega)
    have hr : rd l (n : Int) = l[n] := by unfold rd; simp [hn1]
    rw [e, if_pos (by omega), spec_OverOf_ev k (by omega), if_pos hf]
    simp only [Option.bind_some]
    rw [hr] at hp
    have hq : Fr (ovU f.1 f.2) (ovD f.1) ∧ Pt l[n] := ⟨hf.over, hp⟩
    rw [if_pos (by omega), if_pos (by omega), hr, spec_PlusOf_ev k (by omega), if_pos hq, oStep_pl]
    simp only [Option.bind_some]
    rw [List.take_succ_eq_append_getElem hn1, oT_snoc]
    simp only [Option.bind_some]
    cases hs : oStep l[n] f with
    | none => rw [oT_none]; rfl
    | some g =>
      have hg := oStep_fr hs
      simp only [oR, if_true]
      rw [w64 (by omega)]
      exact ih k g (by omega) (by omega) hg
theorem spec_OfTerms_ev (k : Nat) (hk : 1000200 ≤ k) (l : List Int) (hn : l.length ≤ 1000000) : spec_OfTerms.f k l = some (if Tm l then oR (oT (some (1, 0)) l) else (0, 0, false)) := by
  unfold spec_OfTerms.f
  rw [spec_TermsOk_ev k l (by omega) (by omega)]
  simp only [Option.bind_some, decide_eq_true_eq]
  by_cases h : Tm l
  · have g1 := h.1
    rw [if_pos h, if_pos h, w64 (by omega), spec_OfTerms_l0 l h l.length k (1, 0) (by have := h.2.1; omega) (by omega) (by decide), List.take_length]
  · rw [if_neg h, if_neg h]
theorem FnExactOfTerms : laws_FnExactOfTerms.Pure := by
  intro l _ _ _
  refine ⟨1048680, ?_⟩
  unfold laws_FnExactOfTerms.f
  by_cases h : (l.length : Int) > 1048576
  · rw [if_pos h]
  · rw [if_neg h]
    have hn : l.length ≤ 1048576 := by omega
    by_cases h1 : l.length ≤ 1000000
    · simp only [laws_toIntS_ev 1048680 l (by omega) hn, spec_OfTerms_ev 1048680 (by omega) l h1, impl_OfTerms_ev 1048680 (by omega) l h1, Option.bind_some, laws_eqFraction_same, if_true]
      generalize (if Tm l then oR (oT (some (1, 0)) l) else (0, 0, false)) = z
      have hz : (z.2.2 != z.2.2) = false := by cases z.2.2 <;> rfl
      rw [hz]
      simp only [laws_FnExactOfTerms.j0, laws_toIntS_ev 1048679 l (by omega) hn, laws_eqIntS_ev 1048679 l l (by omega) hn, Option.bind_some]
      simp
    · have hT : ¬ Tm l := fun x => by have := x.2.1; omega
      have e1 : spec_OfTerms.f 1048680 l = some (0, 0, false) := by
        unfold spec_OfTerms.f
        rw [spec_TermsOk_ev _ l (by omega) hn]
        simp [hT]
      have e2 : impl_OfTerms.f 1048680 l = some (0, 0, false) := by
        unfold impl_OfTerms.f
        rw [impl_areTerms_ev _ l (by omega) hn]
        simp [hT]
      simp only [laws_toIntS_ev 1048680 l (by omega) hn, e1, e2, Option.bind_some, laws_eqFraction_same, if_true]
      simp only [laws_FnExactOfTerms.j0, laws_toIntS_ev 1048679 l (by omega) hn, laws_eqIntS_ev 1048679 l l (by omega) hn, Option.bind_some]
      simp
end Go.Proofs.Ytmckeejjddablaa.Pure
