/- The pure part of the law FnBehindOf: the printed law answers true at all codes. No conditions. -/
import Derived.Test.YtmckeejjddablaaCFnBehindOf
import Derived.OpenShut
namespace Go.Proofs.Ytmckeejjddablaa.Pure
open Go.RowKit Go.Proofs.Ytmckeejjddablaa.PFnBehindOf Go.Proofs.YtmckeejjddablaaW.PrintWords Go.Proofs.YtmckeejjddablaaW.PrintLast Go.Proofs.YtmckeejjddablaaW.PrintMore
set_option linter.unusedVariables false
set_option linter.unusedSimpArgs false
theorem st {P : Prop} [Decidable P] (h : P) : some true = some (decide P) := by simp [h]
theorem sf {P : Prop} [Decidable P] (h : ¬P) : some false = some (decide P) := by simp [h]
theorem sd {P Q : Prop} [Decidable P] [Decidable Q] (h : P ↔ Q) : some (decide P) = some (decide Q) := by simp [h]
theorem w64 {n : Int} (h : -9223372036854775808 ≤ n ∧ n ≤ 9223372036854775807) : wrap64 n = n := by unfold wrap64; omega
def kd (u d : Int) : Int := if Int.tmod u 2 = 0 then 0 else if Int.tmod d 2 = 0 then 1 else 2
def Fr (u d : Int) : Prop := -1000000 ≤ u ∧ u ≤ 1000000 ∧ 0 ≤ d ∧ d ≤ 1000000 ∧ (d = 0 → u = 1) ∧ (Int.gcd u d = 1)
instance (u d : Int) : Decidable (Fr u d) := by unfold Fr; exact inferInstance
def Pt (n : Int) : Prop := -1000000 ≤ n ∧ n ≤ 1000000
instance (n : Int) : Decidable (Pt n) := by unfold Pt; exact inferInstance
theorem gcd_step (a b : Int) : Int.gcd b (Int.tmod a b) = Int.gcd a b := by
  unfold Int.gcd
  rw [Int.natAbs_tmod, Nat.gcd_comm a.natAbs b.natAbs, Nat.gcd_rec b.natAbs a.natAbs, Nat.gcd_comm]
theorem tmod_lt (a b : Int) (h : b ≠ 0) : (Int.tmod a b).natAbs < b.natAbs := by
  rw [Int.natAbs_tmod]
  exact Nat.mod_lt _ (by omega)
theorem tdiv_le (a b : Int) : (Int.tdiv a b).natAbs ≤ a.natAbs := by
  rw [Int.natAbs_tdiv]
  exact Nat.div_le_self _ _
theorem tdiv_w (a b : Int) (h : -1000000 ≤ a ∧ a ≤ 1000000) : wrap64 (Int.tdiv a b) = Int.tdiv a b := by
  have := tdiv_le a b
  exact w64 (by omega)
theorem gcd_le_pt (a b : Int) (ha : Pt a) (hb : Pt b) : (Int.gcd a b : Int) ≤ 1000000 := by
  unfold Pt at ha hb
  by_cases h : a = 0
  · subst h
    rw [Int.zero_gcd]
    omega
  · have := Int.gcd_le_natAbs_left b h
    omega
theorem gcd_pos (a b : Int) (h : ¬(a = 0 ∧ b = 0)) : 0 < Int.gcd a b := by
  rcases Nat.eq_zero_or_pos (Int.gcd a b) with h' | h'
  · exact absurd (Int.gcd_eq_zero_iff.mp h') h
  · exact h'
def sg (u d : Int) : Int := if d < 0 ∨ (d = 0 ∧ u < 0) then -(Int.gcd u d : Int) else (Int.gcd u d : Int)
def lowU (u d : Int) : Int := Int.tdiv u (sg u d)
def lowD (u d : Int) : Int := Int.tdiv d (sg u d)
theorem sg_ne (u d : Int) (h : ¬(u = 0 ∧ d = 0)) : sg u d ≠ 0 := by
  have := gcd_pos u d h
  unfold sg
  split <;> omega
theorem mulb {a b : Int} (ha : Pt a) (hb : Pt b) : -1000000000000 ≤ a * b ∧ a * b ≤ 1000000000000 := by
  unfold Pt at ha hb
  have h1 : a.natAbs ≤ 1000000 := by omega
  have h2 : b.natAbs ≤ 1000000 := by omega
  have := Nat.mul_le_mul h1 h2
  rw [← Int.natAbs_mul] at this
  omega
theorem wmul {a b : Int} (ha : Pt a) (hb : Pt b) : wrap64 (a * b) = a * b := by
  have := mulb ha hb
  exact w64 (by omega)
theorem Fr.pu {u d : Int} (h : Fr u d) : Pt u := ⟨h.1, h.2.1⟩
theorem Fr.pd {u d : Int} (h : Fr u d) : Pt d := by unfold Fr at h; unfold Pt; omega
theorem Fr.ne {u d : Int} (h : Fr u d) : ¬(-d = 0 ∧ u = 0) := by
  unfold Fr at h; omega
theorem Fr.wn {u d : Int} (h : Fr u d) : wrap64 (-d) = -d := by
  unfold Fr at h; exact w64 (by omega)
theorem Fr.pn {u d : Int} (h : Fr u d) : Pt (-d) := by
  unfold Fr at h; unfold Pt; omega
def ovU (u d : Int) : Int := if u ≤ 0 then d else -d
def ovD (u : Int) : Int := if u ≤ 0 then -u else u
theorem low_one {u d : Int} (h : Int.gcd u d = 1) : lowU u d = (if d < 0 ∨ (d = 0 ∧ u < 0) then -u else u) ∧ lowD u d = (if d < 0 ∨ (d = 0 ∧ u < 0) then -d else d) := by
  unfold lowU lowD sg
  rw [h]
  split
  · simp
  · simp
theorem low_over {u d : Int} (h : Fr u d) : lowU (-d) u = ovU u d ∧ lowD (-d) u = ovD u := by
  have hg : Int.gcd (-d) u = 1 := by rw [Int.neg_gcd, Int.gcd_comm]; exact h.2.2.2.2.2
  obtain ⟨e1, e2⟩ := low_one hg
  rw [e1, e2]
  unfold Fr at h
  unfold ovU ovD
  by_cases h1 : u < 0
  · rw [if_pos (Or.inl h1), if_pos (Or.inl h1), if_pos (by omega), if_pos (by omega)]; omega
  · by_cases h2 : u = 0
    · have : d = 1 ∨ d ≠ 1 := by omega
      have hd : 0 < d := by omega
      rw [if_pos (Or.inr ⟨h2, by omega⟩), if_pos (Or.inr ⟨h2, by omega⟩), if_pos (by omega), if_pos (by omega)]; omega
    · rw [if_neg (by omega), if_neg (by omega), if_neg (by omega), if_neg (by omega)]; omega
theorem t2z (u : Int) : Int.tmod u 2 = 0 ↔ u % 2 = 0 := by rw [← Int.dvd_iff_tmod_eq_zero, ← Int.dvd_iff_emod_eq_zero]
theorem Fr.odd {u d : Int} (h : Fr u d) : ¬ (u % 2 = 0 ∧ d % 2 = 0) := by
  intro x
  have h1 : (2 : Int) ∣ u := Int.dvd_of_emod_eq_zero x.1
  have h2 : (2 : Int) ∣ d := Int.dvd_of_emod_eq_zero x.2
  have h3 : (2 : Int) ∣ (Int.gcd u d : Int) := Int.dvd_coe_gcd h1 h2
  rw [h.2.2.2.2.2] at h3
  omega
theorem Fr.over {u d : Int} (h : Fr u d) : Fr (ovU u d) (ovD u) := by
  have hn := h.ne
  have hg := h.2.2.2.2.2
  have hc : Int.gcd d u = 1 := by rw [Int.gcd_comm]; exact hg
  unfold Fr at h
  unfold ovU ovD
  by_cases h1 : u ≤ 0
  · rw [if_pos h1, if_pos h1]
    exact ⟨by omega, by omega, by omega, by omega, fun x => by
      have hu : u = 0 := by omega
      subst hu
      rw [Int.gcd_zero_right] at hc
      omega, by rw [Int.gcd_neg]; exact hc⟩
  · rw [if_neg h1, if_neg h1]
    exact ⟨by omega, by omega, by omega, by omega, by omega, by rw [Int.neg_gcd]; exact hc⟩
theorem Fr.neg {u d : Int} (h : Fr u d) (hd : 0 < d) : Fr (-u) d := by
  unfold Fr at h ⊢
  rw [Int.neg_gcd]
  omega
theorem kd_eq (u d : Int) : kd u d = if u % 2 = 0 then 0 else if d % 2 = 0 then 1 else 2 := by
  unfold kd
  simp only [t2z]
theorem kd_over {u d : Int} (h : Fr u d) : kd (ovU u d) (ovD u) = if kd u d = 0 then 1 else if kd u d = 1 then 0 else 2 := by
  have ho := h.odd
  have e1 : (ovU u d) % 2 = 0 ↔ d % 2 = 0 := by unfold ovU; split <;> omega
  have e2 : (ovD u) % 2 = 0 ↔ u % 2 = 0 := by unfold ovD; split <;> omega
  rw [kd_eq, kd_eq]
  simp only [e1, e2]
  by_cases h1 : u % 2 = 0
  · by_cases h2 : d % 2 = 0
    · exact absurd ⟨h1, h2⟩ ho
    · simp [h1, h2]
  · by_cases h2 : d % 2 = 0
    · simp [h1, h2]
    · simp [h1, h2]
theorem kd_plus {u d : Int} (h : Fr u d) : kd (u + d) d = if kd u d = 0 then 2 else if kd u d = 1 then 1 else 0 := by
  have ho := h.odd
  rw [kd_eq, kd_eq]
  by_cases h1 : u % 2 = 0
  · by_cases h2 : d % 2 = 0
    · exact absurd ⟨h1, h2⟩ ho
    · have h3 : ¬ (u + d) % 2 = 0 := by omega
      simp [h1, h2, h3]
  · by_cases h2 : d % 2 = 0
    · have h3 : ¬ (u + d) % 2 = 0 := by omega
      simp [h1, h2, h3]
    · have h3 : (u + d) % 2 = 0 := by omega
      simp [h1, h2, h3]
theorem kd_neg (u d : Int) : kd (-u) d = kd u d := by
  have e : (-u) % 2 = 0 ↔ u % 2 = 0 := by omega
  rw [kd_eq, kd_eq]
  simp only [e]
def endsL (u d : Int) : List Int := if kd u d = 0 then [1, 0, 3, 2] else if kd u d = 1 then [2, 3, 0, 1] else [3, 2, 1, 0]
def pl (u d n : Int) : Int × Int × Bool := if Fr (u + n * d) d then (u + n * d, d, true) else (0, 0, false)
theorem wplus {u d n : Int} (hu : Pt u) (hd : Pt d) (hn : Pt n) : wrap64 (u + wrap64 (n * d)) = u + n * d := by
  have := mulb hn hd
  rw [wmul hn hd]
  unfold Pt at hu
  exact w64 (by omega)
theorem kd_rng (u d : Int) : kd u d = 0 ∨ kd u d = 1 ∨ kd u d = 2 := by
  unfold kd
  split
  · exact Or.inl rfl
  · split
    · exact Or.inr (Or.inl rfl)
    · exact Or.inr (Or.inr rfl)
theorem ltge (a b : Int) : a < b ∨ b ≤ a := by omega
theorem gcd_dvd (u d : Int) : (Int.gcd u d : Int) ∣ u ∧ (Int.gcd u d : Int) ∣ d := ⟨Int.gcd_dvd_left u d, Int.gcd_dvd_right u d⟩
theorem sg_dvd (u d : Int) : sg u d ∣ u ∧ sg u d ∣ d := by
  have h := gcd_dvd u d
  unfold sg
  split
  · exact ⟨Int.neg_dvd.2 h.1, Int.neg_dvd.2 h.2⟩
  · exact h
theorem low_mul (u d : Int) : lowU u d * sg u d = u ∧ lowD u d * sg u d = d :=
  ⟨Int.tdiv_mul_cancel (sg_dvd u d).1, Int.tdiv_mul_cancel (sg_dvd u d).2⟩
theorem low_gcd (u d : Int) (h : ¬(u = 0 ∧ d = 0)) : Int.gcd (lowU u d) (lowD u d) = 1 := by
  have e := low_mul u d
  have g := Int.gcd_mul_right (lowU u d) (sg u d) (lowD u d)
  rw [e.1, e.2] at g
  have hs : (sg u d).natAbs = Int.gcd u d := by unfold sg; split <;> omega
  rw [hs] at g
  have hp := gcd_pos u d h
  have : Int.gcd (lowU u d) (lowD u d) * Int.gcd u d = 1 * Int.gcd u d := by omega
  exact Nat.eq_of_mul_eq_mul_right hp this
theorem low_fr {u d : Int} (hu : Pt u) (hd : Pt d) (h : ¬(u = 0 ∧ d = 0)) : Fr (lowU u d) (lowD u d) := by
  have hg := low_gcd u d h
  have e := low_mul u d
  have b1 := tdiv_le u (sg u d)
  have b2 := tdiv_le d (sg u d)
  have hp := gcd_pos u d h
  have b3 : (lowU u d).natAbs ≤ u.natAbs := b1
  have b4 : (lowD u d).natAbs ≤ d.natAbs := b2
  unfold Pt at hu hd
  have hpos : 0 ≤ lowD u d := by
    rcases ltge (lowD u d) 0 with hl | hl
    · exfalso
      by_cases hd0 : d < 0
      · have hs : sg u d < 0 := by unfold sg; rw [if_pos (Or.inl hd0)]; omega
        have := Int.mul_pos_of_neg_of_neg hl hs
        omega
      · by_cases hdz : d = 0
        · rw [hdz] at e b4
          have : lowD u d = 0 := by rw [hdz]; omega
          omega
        · have hs : 0 < sg u d := by unfold sg; rw [if_neg (by omega)]; omega
          have := Int.mul_neg_of_neg_of_pos hl hs
          omega
    · exact hl
  refine ⟨by omega, by omega, hpos, by omega, ?_, hg⟩
  intro h0
  rw [h0, Int.gcd_zero_right] at hg
  have hd0 : d = 0 := by have := e.2; rw [h0, Int.zero_mul] at this; omega
  have hu0 : u ≠ 0 := fun x => h ⟨x, hd0⟩
  have hU : lowU u d = 1 ∨ lowU u d = -1 := by omega
  rcases hU with hU | hU
  · exact hU
  · exfalso
    have e1 := e.1
    rw [hU] at e1
    by_cases hn : u < 0
    · have : sg u d < 0 := by unfold sg; rw [if_pos (Or.inr ⟨hd0, hn⟩)]; omega
      omega
    · have : 0 < sg u d := by unfold sg; rw [if_neg (by omega)]; omega
      omega
theorem low_cross (u d : Int) : lowU u d * d = u * lowD u d := by
  have e := low_mul u d
  have h1 : lowU u d * d = lowU u d * (lowD u d * sg u d) := by rw [e.2]
  have h2 : u * lowD u d = lowU u d * sg u d * lowD u d := by rw [e.1]
  rw [h1, h2, Int.mul_assoc, Int.mul_comm (sg u d)]
theorem sg_pos_scale (s u d : Int) (hs : 0 < s) : sg (s * u) (s * d) = s * sg u d := by
  unfold sg
  have hg : (Int.gcd (s * u) (s * d) : Int) = s * (Int.gcd u d : Int) := by
    rw [Int.gcd_mul_left]
    have : ((s.natAbs * Int.gcd u d : Nat) : Int) = (s.natAbs : Int) * (Int.gcd u d : Int) := by simp
    rw [this]
    congr 1
    omega
  have c1 : s * d < 0 ↔ d < 0 := by
    constructor
    · intro h
      rcases ltge d 0 with h' | h'
      · exact h'
      · have := Int.mul_nonneg (Int.le_of_lt hs) h'; omega
    · intro h; exact Int.mul_neg_of_pos_of_neg hs h
  have c2 : s * d = 0 ↔ d = 0 := by
    constructor
    · intro h
      rcases Int.mul_eq_zero.mp h with h' | h'
      · omega
      · exact h'
    · intro h; rw [h, Int.mul_zero]
  have c3 : s * u < 0 ↔ u < 0 := by
    constructor
    · intro h
      rcases ltge u 0 with h' | h'
      · exact h'
      · have := Int.mul_nonneg (Int.le_of_lt hs) h'; omega
    · intro h; exact Int.mul_neg_of_pos_of_neg hs h
  simp only [hg, c1, c2, c3]
  split
  · rw [Int.mul_neg]
  · rfl
theorem low_scale (s u d : Int) (hs : 0 < s) : lowU (s * u) (s * d) = lowU u d ∧ lowD (s * u) (s * d) = lowD u d := by
  unfold lowU lowD
  rw [sg_pos_scale s u d hs, Int.mul_tdiv_mul_of_pos _ _ hs, Int.mul_tdiv_mul_of_pos _ _ hs]
  exact ⟨rfl, rfl⟩
theorem low_neg (u d : Int) (h : ¬(u = 0 ∧ d = 0)) : lowU (-u) (-d) = lowU u d ∧ lowD (-u) (-d) = lowD u d := by
  have hs : sg (-u) (-d) = -sg u d := by
    unfold sg
    rw [Int.gcd_neg, Int.neg_gcd]
    by_cases c : d < 0 ∨ (d = 0 ∧ u < 0)
    · rw [if_pos c, if_neg (by omega)]; omega
    · rw [if_neg c, if_pos (by omega)]
  unfold lowU lowD
  rw [hs, Int.tdiv_neg, Int.tdiv_neg, Int.neg_tdiv, Int.neg_tdiv, Int.neg_neg, Int.neg_neg]
  exact ⟨rfl, rfl⟩
theorem Fr.low {u d : Int} (h : Fr u d) : lowU u d = u ∧ lowD u d = d := by
  obtain ⟨e1, e2⟩ := low_one h.2.2.2.2.2
  unfold Fr at h
  rw [if_neg (by omega)] at e1 e2
  exact ⟨e1, e2⟩
theorem over_over {u d : Int} (h : Fr u d) : ovU (ovU u d) (ovD u) = u ∧ ovD (ovU u d) = d := by
  have hg := h.2.2.2.2.2
  unfold Fr at h
  unfold ovU ovD
  by_cases h1 : u ≤ 0
  · simp only [if_pos h1]
    by_cases h2 : d ≤ 0
    · have : u = 1 := h.2.2.2.2.1 (by omega)
      omega
    · rw [if_neg h2, if_neg h2]; omega
  · simp only [if_neg h1]
    rw [if_pos (by omega), if_pos (by omega)]; omega
theorem lt_iff_plus {u d n : Int} (hd : 0 < d) : u * d < (u + n * d) * d ↔ 0 < n := by
  rw [Int.mul_lt_mul_right hd]
  constructor
  · intro h
    rcases ltge 0 n with h' | h'
    · exact h'
    · have := Int.mul_nonneg (show 0 ≤ -n by omega) (Int.le_of_lt hd)
      rw [Int.neg_mul] at this
      omega
  · intro h
    have := Int.mul_pos h hd
    omega
theorem fr_eq {u d u' d' : Int} (h : Fr u d) (h' : Fr u' d') (hd : 0 < d) (hd' : 0 < d') (e : u * d' = u' * d) : u = u' ∧ d = d' := by
  have g1 : Nat.Coprime d.natAbs u.natAbs := by
    have := h.2.2.2.2.2
    rw [Int.gcd_comm] at this
    exact this
  have g2 : Nat.Coprime d'.natAbs u'.natAbs := by
    have := h'.2.2.2.2.2
    rw [Int.gcd_comm] at this
    exact this
  have en : u.natAbs * d'.natAbs = u'.natAbs * d.natAbs := by rw [← Int.natAbs_mul, ← Int.natAbs_mul, e]
  have k1 : d.natAbs ∣ d'.natAbs := Nat.Coprime.dvd_of_dvd_mul_left g1 ⟨u'.natAbs, by rw [en, Nat.mul_comm]⟩
  have k2 : d'.natAbs ∣ d.natAbs := Nat.Coprime.dvd_of_dvd_mul_left g2 ⟨u.natAbs, by rw [← en, Nat.mul_comm]⟩
  have k3 := Nat.dvd_antisymm k1 k2
  have hdd : d = d' := by omega
  subst hdd
  exact ⟨Int.eq_of_mul_eq_mul_right (by omega) e, rfl⟩
def Ls (a b c d : Int) : Prop := Fr a b ∧ Fr c d ∧ 0 < b ∧ 0 < d ∧ a * d < c * b
instance (a b c d : Int) : Decidable (Ls a b c d) := by unfold Ls; exact inferInstance
theorem wtwo {x y z w : Int} (hx : Pt x) (hy : Pt y) (hz : Pt z) (hw : Pt w) : wrap64 (wrap64 (x * y) + wrap64 (z * w)) = x * y + z * w := by
  have h1 := mulb hx hy
  have h2 := mulb hz hw
  rw [wmul hx hy, wmul hz hw]
  exact w64 (by omega)
def Bg (n : Int) : Prop := -2000000000000 ≤ n ∧ n ≤ 2000000000000
theorem two_bg {x y z w : Int} (hx : Pt x) (hy : Pt y) (hz : Pt z) (hw : Pt w) : Bg (x * y + z * w) := by
  have h1 := mulb hx hy
  have h2 := mulb hz hw
  unfold Bg; omega
theorem bg_neg {n : Int} (h : Bg n) : wrap64 (-n) = -n := by unfold Bg at h; exact w64 (by omega)
def t2 (n : Int) : Bool := decide (2 ≤ n ∧ n ≤ 60)
def Tm (l : List Int) : Prop := 1 ≤ l.length ∧ l.length ≤ 60 ∧ -60 ≤ rd l 0 ∧ rd l 0 ≤ 60 ∧ (l.drop 1).all t2 = true
instance (l : List Int) : Decidable (Tm l) := by unfold Tm; exact inferInstance
def led (a b c d u v : Int) : Int × Int × Bool := if Pt (a * u + b * v) ∧ Pt (c * u + d * v) ∧ ¬(a * u + b * v = 0 ∧ c * u + d * v = 0) then (lowU (a * u + b * v) (c * u + d * v), lowD (a * u + b * v) (c * u + d * v), true) else (0, 0, false)
def ofL (l : List UInt8) : ByteArray := ⟨l.toArray⟩
theorem ofL_size (l : List UInt8) : (ofL l).size = l.length := by simp [ofL, ByteArray.size]
theorem ofL_app (l m : List UInt8) : ofL l ++ ofL m = ofL (l ++ m) := by
  apply ByteArray.ext; simp [ofL]
theorem ofL_data (l : List UInt8) : (ofL l).data.toList = l := by simp [ofL]
theorem bt_get (s : ByteArray) (i : Int) (h0 : 0 ≤ i) (h : i.toNat < s.size) : bt s i = (s.data.toList[i.toNat]'(by simpa using h)).toNat := by
  unfold bt
  rw [dif_pos h]
  rfl
def mv (c : UInt8) : Bool := c == 84 || c == 116 || c == 82
def dok (l : List UInt8) : Bool := l.all mv
theorem mv_iff (c : UInt8) : mv c = true ↔ ((c.toNat : Int) = 84 ∨ (c.toNat : Int) = 116 ∨ (c.toNat : Int) = 82) := by
  unfold mv
  simp only [Bool.or_eq_true, beq_iff_eq]
  have e1 : (84 : UInt8).toNat = 84 := rfl
  have e2 : (116 : UInt8).toNat = 116 := rfl
  have e3 : (82 : UInt8).toNat = 82 := rfl
  rw [← UInt8.toNat_inj, ← UInt8.toNat_inj, ← UInt8.toNat_inj, e1, e2, e3]
  omega
def Dn (s : ByteArray) : Prop := dok s.data.toList = true ∧ s.size ≤ 40
instance (s : ByteArray) : Decidable (Dn s) := by unfold Dn; exact inferInstance
theorem impl_isPart_ev (n : Int) : impl_isPart.f n = some (decide (Pt n)) := by
  unfold impl_isPart.f Pt
  split
  · exact sd (by omega)
  · exact sf (by omega)
theorem spec_l1In_ev (n a b : Int) : spec_l1In.f n a b = some (decide (a ≤ n ∧ n ≤ b)) := by
  unfold spec_l1In.f
  split
  · exact sd (by omega)
  · exact sf (by omega)
theorem impl_gcd_l0 (n : Nat) : ∀ (k : Nat) (a b : Int), b.natAbs ≤ n → n < k → a.natAbs ≤ 4611686018427387904 → b.natAbs ≤ 4611686018427387904 → impl_gcd.l0 k a b = some (Int.gcd a b : Int) := by
  induction n with
  | zero =>
    intro k a b hb hk ha _
    obtain ⟨k, rfl⟩ : ∃ m, k = m + 1 := ⟨k - 1, by omega⟩
    have hb0 : b = 0 := by omega
    simp only [impl_gcd.l0]
    rw [if_pos hb0, w64 (by omega), hb0, Int.gcd_zero_right]
    unfold mx; congr 1; split <;> omega
  | succ n ih =>
    intro k a b hb hk ha hb'
    obtain ⟨k, rfl⟩ : ∃ m, k = m + 1 := ⟨k - 1, by omega⟩
    simp only [impl_gcd.l0]
    by_cases h : b = 0
    · rw [if_pos h, w64 (by omega), h, Int.gcd_zero_right]
      unfold mx; congr 1; split <;> omega
    · rw [if_neg h]
      have := tmod_lt a b h
      rw [ih k b (Int.tmod a b) (by omega) (by omega) (by omega) (by omega), gcd_step]
theorem impl_gcd_ev (k : Nat) (hk : 1000002 ≤ k) (a b : Int) (ha : Pt a) (hb : Pt b) : impl_gcd.f k a b = some (Int.gcd a b : Int) := by
  unfold Pt at ha hb
  exact impl_gcd_l0 1000001 k a b (by omega) (by omega) (by omega) (by omega)
theorem impl_isFraction_ev (k : Nat) (hk : 1000002 ≤ k) (u d : Int) : impl_isFraction.f k u d = some (decide (Fr u d)) := by
  unfold impl_isFraction.f
  simp only [impl_isPart_ev, Option.bind_some, decide_eq_true_eq]
  by_cases hu : Pt u
  · rw [if_pos hu]
    by_cases h1 : d < 0
    · rw [if_pos h1]; exact sf (by intro h; unfold Fr at h; omega)
    · rw [if_neg h1]
      by_cases h2 : d > 1000000
      · rw [if_pos h2]; exact sf (by intro h; unfold Fr at h; omega)
      · rw [if_neg h2]
        have hd : Pt d := by unfold Pt; omega
        rw [impl_gcd_ev k hk u d hu hd]
        unfold Pt at hu
        have e : ((Int.gcd u d : Int) == 1) = decide (Int.gcd u d = 1) := by rw [Bool.eq_iff_iff]; simp; omega
        simp only [Option.bind_some, e]
        by_cases h3 : d = 0
        · rw [if_pos h3]
          by_cases h4 : u = 1
          · rw [if_pos h4]; exact sd (by unfold Fr; omega)
          · rw [if_neg h4]; exact sf (by intro h; unfold Fr at h; omega)
        · rw [if_neg h3]; exact sd (by unfold Fr; omega)
  · rw [if_neg hu]; exact sf (by intro h; unfold Fr at h; unfold Pt at hu; omega)
theorem impl_FractionOk_ev (k : Nat) (hk : 1000002 ≤ k) (u d : Int) : impl_FractionOk.f k u d = some (decide (Fr u d)) := by
  unfold impl_FractionOk.f
  rw [impl_isFraction_ev k hk]; rfl
theorem impl_lowest_ev (k : Nat) (hk : 1000002 ≤ k) (u d : Int) (hu : Pt u) (hd : Pt d) (h : ¬(u = 0 ∧ d = 0)) : impl_lowest.f k u d = some (lowU u d, lowD u d) := by
  unfold impl_lowest.f
  rw [impl_gcd_ev k hk u d hu hd]
  simp only [Option.bind_some]
  have hg := gcd_pos u d h
  have hl := gcd_le_pt u d hu hd
  have e1 : wrap64 (-(Int.gcd u d : Int)) = -(Int.gcd u d : Int) := w64 (by omega)
  unfold lowU lowD sg
  rw [e1]
  simp only [tdiv_w _ _ hu, tdiv_w _ _ hd]
  by_cases h1 : d < 0
  · rw [if_pos h1, if_neg (by omega), if_pos (by omega)]
  · rw [if_neg h1]
    by_cases h2 : d = 0
    · rw [if_pos h2]
      by_cases h3 : u < 0
      · rw [if_pos h3, if_neg (by omega), if_pos (by omega)]
      · rw [if_neg h3, if_neg (by omega), if_neg (by omega)]
    · rw [if_neg h2, if_neg (by omega), if_neg (by omega)]
theorem impl_lowest_over (k : Nat) (hk : 1000002 ≤ k) {u d : Int} (h : Fr u d) : impl_lowest.f k (wrap64 (-d)) u = some (ovU u d, ovD u) := by
  rw [h.wn, impl_lowest_ev k hk _ _ h.pn h.pu h.ne, (low_over h).1, (low_over h).2]
theorem impl_LowestOf_ev (k : Nat) (hk : 1000002 ≤ k) (u d : Int) : impl_LowestOf.f k u d = some (if Pt u ∧ Pt d ∧ ¬(u = 0 ∧ d = 0) then (lowU u d, lowD u d, true) else (0, 0, false)) := by
  unfold impl_LowestOf.f
  simp only [impl_isPart_ev, Option.bind_some, decide_eq_true_eq]
  by_cases hu : Pt u
  · rw [if_pos hu]
    by_cases hd : Pt d
    · rw [if_pos hd]
      by_cases h : u = 0 ∧ d = 0
      · rw [if_pos h.1, if_pos h.2, if_neg (fun x => x.2.2 h)]
      · have hp : Pt u ∧ Pt d ∧ ¬(u = 0 ∧ d = 0) := ⟨hu, hd, h⟩
        rw [if_pos hp, impl_lowest_ev k hk u d hu hd h]
        simp only [Option.bind_some]
        by_cases h1 : u = 0
        · rw [if_pos h1, if_neg (by omega)]
        · rw [if_neg h1]
    · rw [if_neg hd, if_neg (fun x => hd x.2.1)]
  · rw [if_neg hu, if_neg (fun x => hu x.1)]
def Mp (a b c d : Int) : Prop := Pt a ∧ Pt b ∧ Pt c ∧ Pt d ∧ a * d - b * c = 1 ∧ (0 < c ∨ c = 0 ∧ 0 < d)
instance (a b c d : Int) : Decidable (Mp a b c d) := by unfold Mp; exact inferInstance
theorem wdet {a b c d : Int} (ha : Pt a) (hb : Pt b) (hc : Pt c) (hd : Pt d) : wrap64 (wrap64 (a * d) - wrap64 (b * c)) = a * d - b * c := by
  have h1 := mulb ha hd
  have h2 := mulb hb hc
  rw [wmul ha hd, wmul hb hc]
  exact w64 (by omega)
theorem spec_MapOk_ev (a b c d : Int) : spec_MapOk.f a b c d = some (decide (Mp a b c d)) := by
  have pt : ∀ n : Int, (-1000000 ≤ n ∧ n ≤ 1000000) ↔ Pt n := fun n => Iff.rfl
  unfold spec_MapOk.f
  simp only [spec_l1In_ev, Option.bind_some, decide_eq_true_eq, pt]
  by_cases ha : Pt a
  · rw [if_pos ha]
    by_cases hb : Pt b
    · rw [if_pos hb]
      by_cases hc : 0 ≤ c ∧ c ≤ 1000000
      · rw [if_pos hc]
        have hc' : Pt c := by unfold Pt; omega
        by_cases hd : Pt d
        · rw [if_pos hd, wdet ha hb hc' hd]
          by_cases h : a * d - b * c = 1
          · rw [if_pos h]
            by_cases h3 : c > 0
            · rw [if_pos h3]; exact st ⟨ha, hb, hc', hd, h, Or.inl h3⟩
            · rw [if_neg h3]; exact sd ⟨fun x => ⟨ha, hb, hc', hd, h, Or.inr ⟨by omega, x⟩⟩, fun x => by have := x.2.2.2.2.2; omega⟩
          · rw [if_neg h]; exact sf (fun x => h x.2.2.2.2.1)
        · rw [if_neg hd]; exact sf (fun x => hd x.2.2.2.1)
      · rw [if_neg hc]; exact sf (fun x => hc (by have h1 := x.2.2.1; have h2 := x.2.2.2.2.2; unfold Pt at h1; omega))
    · rw [if_neg hb]; exact sf (fun x => hb x.2.1)
  · rw [if_neg ha]; exact sf (fun x => ha x.1)
theorem impl_isMap_ev (a b c d : Int) : impl_isMap.f a b c d = some (decide (Mp a b c d)) := by
  unfold impl_isMap.f
  simp only [impl_isPart_ev, Option.bind_some, decide_eq_true_eq]
  by_cases ha : Pt a
  · rw [if_pos ha]
    by_cases hb : Pt b
    · rw [if_pos hb]
      by_cases hc : Pt c
      · rw [if_pos hc]
        by_cases hd : Pt d
        · rw [if_pos hd, wdet ha hb hc hd]
          by_cases h : a * d - b * c = 1
          · rw [if_pos h]
            by_cases h3 : c > 0
            · rw [if_pos h3]; exact st ⟨ha, hb, hc, hd, h, Or.inl h3⟩
            · rw [if_neg h3]
              by_cases h4 : c = 0
              · rw [if_pos h4]; exact sd ⟨fun x => ⟨ha, hb, hc, hd, h, Or.inr ⟨h4, x⟩⟩, fun x => by have := x.2.2.2.2.2; omega⟩
              · rw [if_neg h4]; exact sf (fun x => by have := x.2.2.2.2.2; omega)
          · rw [if_neg h]; exact sf (fun x => h x.2.2.2.2.1)
        · rw [if_neg hd]; exact sf (fun x => hd x.2.2.2.1)
      · rw [if_neg hc]; exact sf (fun x => hc x.2.2.1)
    · rw [if_neg hb]; exact sf (fun x => hb x.2.1)
  · rw [if_neg ha]; exact sf (fun x => ha x.1)
theorem impl_MapOk_ev (a b c d : Int) : impl_MapOk.f a b c d = some (decide (Mp a b c d)) := by
  unfold impl_MapOk.f
  rw [impl_isMap_ev]; rfl
def sgn5 (a b c d : Int) : Int × Int × Int × Int := if c < 0 ∨ (c = 0 ∧ d < 0) then (-a, -b, -c, -d) else (a, b, c, d)
def m5 (m : Int × Int × Int × Int) : Int × Int × Int × Int × Bool := if Mp m.1 m.2.1 m.2.2.1 m.2.2.2 then (m.1, m.2.1, m.2.2.1, m.2.2.2, true) else (0, 0, 0, 0, false)
def bh (a b c d a' b' c' d' : Int) : Int × Int × Int × Int × Bool := m5 (sgn5 (a' * a + b' * c) (a' * b + b' * d) (c' * a + d' * c) (c' * b + d' * d))
theorem spec_l5Signed_ev (a b c d : Int) (ha : Bg a) (hb : Bg b) (hc : Bg c) (hd : Bg d) : spec_l5Signed.f a b c d = some (sgn5 a b c d) := by
  unfold spec_l5Signed.f sgn5
  rw [bg_neg ha, bg_neg hb, bg_neg hc, bg_neg hd]
  by_cases h1 : c < 0
  · rw [if_pos h1, if_pos (Or.inl h1)]
  · rw [if_neg h1]
    by_cases h2 : c = 0
    · rw [if_pos h2]
      by_cases h3 : d < 0
      · rw [if_pos h3, if_pos (Or.inr ⟨h2, h3⟩)]
      · rw [if_neg h3, if_neg (by omega)]
    · rw [if_neg h2, if_neg (by omega)]
theorem spec_BehindOf_ev (k : Nat) (hk : 1 ≤ k) (a b c d a' b' c' d' : Int) : spec_BehindOf.f k a b c d a' b' c' d' = some (if Mp a b c d ∧ Mp a' b' c' d' then bh a b c d a' b' c' d' else (0, 0, 0, 0, false)) := by
  obtain ⟨k, rfl⟩ : ∃ m, k = m + 1 := ⟨k - 1, by omega⟩
  unfold spec_BehindOf.f
  simp only [spec_MapOk_ev, Option.bind_some, decide_eq_true_eq]
  by_cases h1 : Mp a b c d
  · rw [if_pos h1]
    by_cases h2 : Mp a' b' c' d'
    · have hp : Mp a b c d ∧ Mp a' b' c' d' := ⟨h1, h2⟩
      rw [if_pos hp]
      obtain ⟨pa, pb, pc, pd, _⟩ := h1
      obtain ⟨pa', pb', pc', pd', _⟩ := id h2
      have : (!decide (Mp a' b' c' d')) = false := by simpa using h2
      rw [this]
      simp only [spec_BehindOf.j0]
      rw [if_neg (by simp), wtwo pa' pa pb' pc, wtwo pa' pb pb' pd, wtwo pc' pa pd' pc, wtwo pc' pb pd' pd]
      rw [spec_l5Signed_ev _ _ _ _ (two_bg pa' pa pb' pc) (two_bg pa' pb pb' pd) (two_bg pc' pa pd' pc) (two_bg pc' pb pd' pd)]
      simp only [spec_MapOk_ev, Option.bind_some, decide_eq_true_eq]
      unfold bh m5
      split <;> rfl
    · have : (!decide (Mp a' b' c' d')) = true := by simpa using h2
      rw [this, if_neg (fun x => h2 x.2)]
      simp only [spec_BehindOf.j0]
      rw [if_pos trivial]
  · rw [if_neg h1, if_neg (fun x => h1 x.1)]
    simp only [spec_BehindOf.j0]
    rw [if_pos trivial]
theorem bh_or (a b c d a' b' c' d' : Int) : (∃ A B C D, bh a b c d a' b' c' d' = (A, B, C, D, true) ∧ Mp A B C D) ∨ bh a b c d a' b' c' d' = (0, 0, 0, 0, false) := by
  unfold bh m5
  split
  · exact Or.inl ⟨_, _, _, _, rfl, by assumption⟩
  · exact Or.inr rfl
theorem id_cond (A B C D : Int) : ((A == 1 && (B == 0 && (C == 0 && (D == 1)))) = true) ↔ (A = 1 ∧ B = 0 ∧ C = 0 ∧ D = 1) := by simp
theorem bh_id {a b c d : Int} (h : Mp a b c d) : bh 1 0 0 1 a b c d = (a, b, c, d, true) := by
  unfold bh
  simp only [Int.mul_one, Int.mul_zero, Int.add_zero, Int.zero_add]
  have h' := h.2.2.2.2.2
  have e : sgn5 a b c d = (a, b, c, d) := by unfold sgn5; rw [if_neg (by omega)]
  rw [e]
  unfold m5
  rw [if_pos h]
theorem mp_id : Mp 1 0 0 1 := by decide
theorem impl_behind_j0 (k : Nat) (x : Bool) (a b c d : Int) (ha : Bg a) (hb : Bg b) (hc : Bg c) (hd : Bg d) (hx : x = decide (c < 0 ∨ (c = 0 ∧ d < 0))) : impl_behind.j0 (k + 1) x a b c d = some (m5 (sgn5 a b c d)) := by
  simp only [impl_behind.j0]
  rw [bg_neg ha, bg_neg hb, bg_neg hc, bg_neg hd]
  simp only [impl_isMap_ev, Option.bind_some, decide_eq_true_eq]
  subst hx
  simp only [decide_eq_true_eq]
  unfold m5 sgn5
  by_cases h : c < 0 ∨ (c = 0 ∧ d < 0)
  · rw [if_pos h, if_pos h]
    split <;> rfl
  · rw [if_neg h, if_neg h]
    split <;> rfl
theorem impl_behind_ev (k : Nat) (hk : 1 ≤ k) (a b c d a' b' c' d' : Int) (h1 : Mp a b c d) (h2 : Mp a' b' c' d') : impl_behind.f k a b c d a' b' c' d' = some (bh a b c d a' b' c' d') := by
  obtain ⟨k, rfl⟩ : ∃ m, k = m + 1 := ⟨k - 1, by omega⟩
  obtain ⟨pa, pb, pc, pd, _⟩ := h1
  obtain ⟨pa', pb', pc', pd', _⟩ := h2
  unfold impl_behind.f bh
  rw [wtwo pa' pa pb' pc, wtwo pa' pb pb' pd, wtwo pc' pa pd' pc, wtwo pc' pb pd' pd]
  have j := fun x hx => impl_behind_j0 k x _ _ _ _ (two_bg pa' pa pb' pc) (two_bg pa' pb pb' pd) (two_bg pc' pa pd' pc) (two_bg pc' pb pd' pd) hx
  generalize c' * a + d' * c = m at *
  generalize c' * b + d' * d = n at *
  by_cases h3 : m < 0
  · rw [if_pos h3]; exact j true (by simp [h3])
  · rw [if_neg h3]
    by_cases h4 : m = 0
    · rw [if_pos h4]; exact j _ (by rw [decide_eq_decide]; omega)
    · rw [if_neg h4]; exact j false (by symm; rw [decide_eq_false_iff_not]; omega)
theorem impl_BehindOf_ev (k : Nat) (hk : 1 ≤ k) (a b c d a' b' c' d' : Int) : impl_BehindOf.f k a b c d a' b' c' d' = some (if Mp a b c d ∧ Mp a' b' c' d' then bh a b c d a' b' c' d' else (0, 0, 0, 0, false)) := by
  unfold impl_BehindOf.f
  simp only [impl_isMap_ev, Option.bind_some, decide_eq_true_eq]
  by_cases h1 : Mp a b c d
  · rw [if_pos h1]
    by_cases h2 : Mp a' b' c' d'
    · have hp : Mp a b c d ∧ Mp a' b' c' d' := ⟨h1, h2⟩
      rw [if_pos h2, if_pos hp, impl_behind_ev k hk _ _ _ _ _ _ _ _ h1 h2]; rfl
    · rw [if_neg h2, if_neg (fun x => h2 x.2)]
  · rw [if_neg h1, if_neg (fun x => h1 x.1)]
def Bs (l : List Int) : Prop := l.length ≤ 2000 ∧ ∀ i, 0 ≤ rd l i ∧ rd l i ≤ 255
theorem xor_nn (a b : Int) (ha : 0 ≤ a ∧ a ≤ 4611686018427387903) (hb : 0 ≤ b ∧ b ≤ 4611686018427387903) : 0 ≤ Go.bits .xor .i64 a b := by
  obtain ⟨m, rfl⟩ : ∃ m : Nat, a = m := ⟨a.toNat, by omega⟩
  obtain ⟨n, rfl⟩ : ∃ m : Nat, b = m := ⟨b.toNat, by omega⟩
  have hm : m < 2 ^ 62 := by omega
  have hn : n < 2 ^ 62 := by omega
  have hx := Nat.xor_lt_two_pow hm hn
  have e1 : m % 2 ^ IntKind.i64.bits = m := Nat.mod_eq_of_lt (Nat.lt_trans hm (by decide))
  have e2 : n % 2 ^ IntKind.i64.bits = n := Nat.mod_eq_of_lt (Nat.lt_trans hn (by decide))
  simp only [Go.bits, BitVec.ofInt_natCast, BitVec.toNat_xor, BitVec.toNat_ofNat, e1, e2]
  have e3 := IntKind.wrap_i64 ((m ^^^ n : Nat) : Int)
  rw [e3]
  omega
theorem tmod_rng (a n : Int) (ha : 0 ≤ a) (hn : 1 ≤ n) : 0 ≤ Int.tmod a n ∧ Int.tmod a n < n := ⟨Int.tmod_nonneg n ha, Int.tmod_lt_of_pos a (by omega)⟩
theorem pick_ev (k : Nat) (hk : 1 ≤ k) (l : List Int) (hl : Bs l) (p n : Int) (hp : 0 ≤ p ∧ p ≤ 1000000) (hn : n ≤ 10000000) :
    ∃ r, spec_l20Rd_pick.f k l p n = some (r, p + 1) ∧ 0 ≤ r ∧ (1 ≤ n → r < n) ∧ (n < 1 → r = 0) := by
  obtain ⟨k, rfl⟩ : ∃ m, k = m + 1 := ⟨k - 1, by omega⟩
  unfold spec_l20Rd_pick.f
  have e0 : wrap64 (p + 1) = p + 1 := w64 (by omega)
  have e1 : wrap64 (p + 1 - 1) = p := by rw [w64 (by omega)]; omega
  rw [e0]
  by_cases h1 : n < 1
  · rw [if_pos h1]
    simp only [spec_l20Rd_pick.j0]
    rw [if_pos trivial]
    exact ⟨0, rfl, by omega, by omega, fun _ => rfl⟩
  · rw [if_neg h1]
    simp only [spec_l20Rd_pick.j0]
    by_cases h2 : (l.length : Int) = 0
    · rw [if_pos (by simpa using h2)]
      exact ⟨0, rfl, by omega, by omega, fun _ => rfl⟩
    · rw [if_neg (by simpa using h2), e1]
      have hn0 : ¬ n = 0 := by omega
      by_cases h3 : p < (l.length : Int)
      · rw [if_pos h3, if_pos hp.1, if_neg hn0]
        have hr := hl.2 p
        rw [w64 (by omega : -9223372036854775808 ≤ rd l p ∧ _)]
        have := tmod_rng (rd l p) n (by omega) (by omega)
        exact ⟨_, rfl, this.1, fun _ => this.2, by omega⟩
      · rw [if_neg h3, if_neg h2]
        have t1 := tmod_rng p (l.length : Int) hp.1 (by omega)
        have e7 : wrap64 (wrap64 (p * 7) + 3) = p * 7 + 3 := by rw [w64 (by omega : -9223372036854775808 ≤ p * 7 ∧ _), w64 (by omega)]
        rw [e7]
        have t2 := tmod_rng (p * 7 + 3) (l.length : Int) (by omega) (by omega)
        rw [if_pos t1.1, if_pos t1.2, if_pos t2.1, if_pos t2.2, if_neg hn0]
        have r1 := hl.2 (Int.tmod p (l.length : Int))
        have r2 := hl.2 (Int.tmod (p * 7 + 3) (l.length : Int))
        generalize rd l (Int.tmod p (l.length : Int)) = a at r1 ⊢
        generalize rd l (Int.tmod (p * 7 + 3) (l.length : Int)) = b at r2 ⊢
        have q0 := tdiv_le p (l.length : Int)
        have q1 : 0 ≤ Int.tdiv p (l.length : Int) := Int.tdiv_nonneg hp.1 (by omega)
        generalize Int.tdiv p (l.length : Int) = q at q0 q1 ⊢
        have e2 : wrap64 a = a := w64 (by omega)
        have e3 : wrap64 b = b := w64 (by omega)
        have e4 : wrap64 q = q := w64 (by omega)
        rw [e2, e3, e4]
        have e5 : wrap64 (a * 131) = a * 131 := w64 (by omega)
        have e6 : wrap64 (b * 1117) = b * 1117 := w64 (by omega)
        have e8 : wrap64 (q * 53) = q * 53 := w64 (by omega)
        have e9 : wrap64 (p * 29) = p * 29 := w64 (by omega)
        rw [e5, e6, e8, e9]
        have e10 : wrap64 (a * 131 + b * 1117) = a * 131 + b * 1117 := w64 (by omega)
        rw [e10]
        have e11 : wrap64 (a * 131 + b * 1117 + p * 29) = a * 131 + b * 1117 + p * 29 := w64 (by omega)
        rw [e11]
        have e12 : wrap64 (a * 131 + b * 1117 + p * 29 + q * 53) = a * 131 + b * 1117 + p * 29 + q * 53 := w64 (by omega)
        rw [e12]
        have hX : 0 ≤ a * 131 + b * 1117 + p * 29 + q * 53 ∧ a * 131 + b * 1117 + p * 29 + q * 53 ≤ 4611686018427387903 := by omega
        generalize a * 131 + b * 1117 + p * 29 + q * 53 = X at hX ⊢
        have q2 := tdiv_le X 64
        have q3 : 0 ≤ Int.tdiv X 64 := Int.tdiv_nonneg hX.1 (by omega)
        have e13 : wrap64 (Int.tdiv X 64) = Int.tdiv X 64 := w64 (by omega)
        rw [e13]
        have := tmod_rng _ n (xor_nn X (Int.tdiv X 64) hX (by omega)) (by omega)
        exact ⟨_, rfl, this.1, fun _ => this.2, by omega⟩
theorem odd_ev (k : Nat) (hk : 1 ≤ k) (l : List Int) (hl : Bs l) (p n : Int) (hp : 0 ≤ p ∧ p ≤ 1000000) (hn : n ≤ 10000000) :
    ∃ b p', spec_l20Rd_odd.f k l p n = some (b, p') ∧ p ≤ p' ∧ p' ≤ p + 1 := by
  unfold spec_l20Rd_odd.f
  by_cases h : n > 0
  · rw [if_pos h]
    obtain ⟨r, e, _⟩ := pick_ev k hk l hl p n hp hn
    rw [e]
    exact ⟨_, _, rfl, by omega, by omega⟩
  · rw [if_neg h]; exact ⟨_, _, rfl, by omega, by omega⟩
theorem open_ev (l : List Int) (hw : ∀ x ∈ l, (Lit.int .u8 x).wf = true) : ∃ m, spec_l20Open.f l = some (m, 0) ∧ Bs m := by
  have key : ∀ m : List Int, m.length ≤ 2000 → (∀ x ∈ m, x ∈ l) → Bs m := by
    intro m hm hs
    refine ⟨hm, fun i => ?_⟩
    unfold rd
    by_cases h : i.toNat < m.length
    · have : m.getD i.toNat 0 = m[i.toNat] := by simp [h]
      rw [this]
      have h1 := hw _ (hs _ (List.getElem_mem h))
      simp [Lit.wf, IntKind.min, IntKind.max, IntKind.signed, IntKind.bits] at h1
      omega
    · have : m.getD i.toNat 0 = 0 := by simp [Nat.le_of_not_lt h]
      rw [this]; omega
  unfold spec_l20Open.f
  by_cases h : (l.length : Int) > 2000
  · rw [if_pos h, if_pos (by omega)]
    exact ⟨_, rfl, key _ (by simp; omega) (fun x hx => List.mem_of_mem_take hx)⟩
  · rw [if_neg h]
    exact ⟨_, rfl, key _ (by omega) (fun x hx => hx)⟩
theorem alive_ev (k : Nat) (hk : 1000002 ≤ k) : laws_alive.f k = some true := by
  unfold laws_alive.f
  simp only [impl_FractionOk_ev k hk, Option.bind_some]
  decide
theorem spec_DanceOk_l0 (s : ByteArray) (hn : s.size ≤ 1000000000) (d : Nat) : ∀ (k : Nat) (i : Int), 0 ≤ i → i + d = s.size → d < k → spec_DanceOk.l0 k s i = some (decide (dok (s.data.toList.drop i.toNat) = true ∧ s.size ≤ 40)) := by
  have hsz : s.data.toList.length = s.size := by simp
  induction d with
  | zero =>
    intro k i h0 hd hk
    obtain ⟨k, rfl⟩ : ∃ m, k = m + 1 := ⟨k - 1, by omega⟩
    simp only [spec_DanceOk.l0]
    rw [if_neg (by omega), List.drop_eq_nil_of_le (by omega)]
    exact sd ⟨fun x => ⟨rfl, by omega⟩, fun x => by omega⟩
  | succ d ih =>
    intro k i h0 hd hk
    obtain ⟨k, rfl⟩ : ∃ m, k = m + 1 := ⟨k - 1, by omega⟩
    simp only [spec_DanceOk.l0]
    have h1 : i.toNat < s.size := by omega
    have h2 : i.toNat < s.data.toList.length := by omega
    rw [if_pos (by omega), if_pos h0, w64 (by omega), ih k (i + 1) (by omega) (by omega) (by omega)]
    have e : (i + 1).toNat = i.toNat + 1 := by omega
    rw [e, bt_get s i h0 h1, List.drop_eq_getElem_cons h2]
    generalize s.data.toList[i.toNat] = c
    have hm := mv_iff c
    have hc : dok (c :: List.drop (i.toNat + 1) s.data.toList) = (mv c && dok (List.drop (i.toNat + 1) s.data.toList)) := rfl
    rw [hc]
    by_cases c1 : (c.toNat : Int) = 84
    · rw [if_pos c1]; have : mv c = true := hm.2 (Or.inl c1); rw [this, Bool.true_and]
    · rw [if_neg c1]
      by_cases c2 : (c.toNat : Int) = 116
      · rw [if_pos c2]; have : mv c = true := hm.2 (Or.inr (Or.inl c2)); rw [this, Bool.true_and]
      · rw [if_neg c2]
        by_cases c3 : (c.toNat : Int) = 82
        · rw [if_pos c3]; have : mv c = true := hm.2 (Or.inr (Or.inr c3)); rw [this, Bool.true_and]
        · rw [if_neg c3]
          have : mv c = false := by
            rcases Bool.eq_false_or_eq_true (mv c) with h | h
            · have := hm.1 h; omega
            · exact h
          rw [this, Bool.false_and]
          exact sf (by simp)
theorem spec_DanceOk_ev (k : Nat) (s : ByteArray) (hk : s.size < k) (hn : s.size ≤ 1000000000) : spec_DanceOk.f k s = some (decide (Dn s)) := by
  unfold spec_DanceOk.f
  rw [spec_DanceOk_l0 s hn s.size k 0 (by omega) (by omega) hk]
  rfl
theorem spec_l5Move_mp (c : Int) : ∃ a b c' d, spec_l5Move.f c = some (a, b, c', d) ∧ Mp a b c' d := by
  unfold spec_l5Move.f
  split
  · exact ⟨_, _, _, _, rfl, by decide⟩
  · split
    · exact ⟨_, _, _, _, rfl, by decide⟩
    · exact ⟨_, _, _, _, rfl, by decide⟩
theorem spec_MapOf_some (k : Nat) (s : ByteArray) (hk : s.size + 2 < k) (hn : s.size ≤ 1000000000) : ∃ a b c d ok, spec_MapOf.f k s = some (a, b, c, d, ok) ∧ (ok = true → Mp a b c d) := by
  have l : ∀ (d : Nat) (k : Nat) (i A B C D : Int), 0 ≤ i → i + d = s.size → d + 1 < k → Mp A B C D → ∃ a b c e ok, spec_MapOf.l0 k s i A B C D = some (a, b, c, e, ok) ∧ (ok = true → Mp a b c e) := by
    intro d
    induction d with
    | zero =>
      intro k i A B C D h0 hd hk hP
      obtain ⟨k, rfl⟩ : ∃ m, k = m + 1 := ⟨k - 1, by omega⟩
      simp only [spec_MapOf.l0]
      rw [if_neg (by omega)]
      exact ⟨_, _, _, _, _, rfl, fun _ => hP⟩
    | succ d ih =>
      intro k i A B C D h0 hd hk hP
      obtain ⟨k, rfl⟩ : ∃ m, k = m + 1 := ⟨k - 1, by omega⟩
      simp only [spec_MapOf.l0]
      rw [if_pos (by omega), if_pos h0, w64 (by omega)]
      obtain ⟨a', b', c', d', e, hm⟩ := spec_l5Move_mp (bt s i)
      rw [e]
      simp only [Option.bind_some]
      rw [spec_BehindOf_ev k (by omega)]
      have hp : Mp A B C D ∧ Mp a' b' c' d' := ⟨hP, hm⟩
      simp only [if_pos hp, Option.bind_some]
      rcases bh_or A B C D a' b' c' d' with ⟨A', B', C', D', e, hP'⟩ | e
      · rw [e]
        simp only [if_true]
        exact ih k (i + 1) _ _ _ _ (by omega) (by omega) (by omega) hP'
      · rw [e]
        exact ⟨_, _, _, _, _, rfl, fun x => by simp at x⟩
  unfold spec_MapOf.f
  rw [spec_DanceOk_ev k s (by omega) hn]
  simp only [Option.bind_some, decide_eq_true_eq]
  split
  · exact l s.size k 0 1 0 0 1 (by omega) (by omega) (by omega) (by decide)
  · exact ⟨_, _, _, _, _, rfl, fun x => by simp at x⟩
theorem rdOf_sz (L : List ByteArray) (h : ∀ x ∈ L, x.size ≤ 50) (r : Int) : (rdOf ByteArray.empty L r).size ≤ 50 := by
  unfold rdOf
  by_cases hr : r.toNat < L.length
  · have : L.getD r.toNat ByteArray.empty = L[r.toNat] := by simp [hr]
    rw [this]
    exact h _ (List.getElem_mem hr)
  · have : L.getD r.toNat ByteArray.empty = ByteArray.empty := by simp [Nat.le_of_not_lt hr]
    rw [this]
    decide
theorem dance_ev (k : Nat) (l : List Int) (hl : Bs l) (p a n : Int) (hk : a.toNat + 4 < k) (hp : 0 ≤ p ∧ p ≤ 900000) (ha : 0 ≤ a ∧ a ≤ 1000) (hn : n ≤ 10000000) :
    ∃ s p', spec_l20Dance.f k l p a n = some (s, p') ∧ p ≤ p' ∧ p' ≤ p + a + 5 ∧ s.size ≤ 50 * a.toNat + 50 := by
  have j : ∀ (d : Nat) (k : Nat) (s : ByteArray) (p : Int), d + 2 < k → 0 ≤ p → p + d ≤ 901010 → s.size + 50 * d ≤ 100000 → ∃ t p', spec_l20Dance.l0 k n s (d : Int) l p = some (t, p') ∧ p ≤ p' ∧ p' ≤ p + d + 2 ∧ t.size ≤ s.size + 50 * d + 50 := by
    intro d
    induction d with
    | zero =>
      intro k s p hk h0 h1 hs
      obtain ⟨k, rfl⟩ : ∃ m, k = m + 1 := ⟨k - 1, by omega⟩
      simp only [spec_l20Dance.l0]
      rw [if_neg (by omega)]
      obtain ⟨b, p', e, h2, h3⟩ := odd_ev k (by omega) l hl p n (by omega) hn
      rw [e]
      simp only [Option.bind_some]
      by_cases hb : b = true
      · rw [if_pos hb]
        obtain ⟨r, e2, h4, h5, _⟩ := pick_ev k (by omega) l hl p' 3 (by omega) (by omega)
        rw [e2]
        simp only [Option.bind_some]
        have h6 := h5 (by omega)
        rw [if_pos h4, if_pos (by simp only [List.length_cons, List.length_nil]; omega)]
        split
        · exact ⟨_, _, rfl, by omega, by omega, by rw [ByteArray.size_append]; exact Nat.le_trans (Nat.add_le_add_left (rdOf_sz _ (by decide) r) _) (by omega)⟩
        · rename_i hc
          exact absurd (Nat.le_trans (Nat.add_le_add_left (rdOf_sz _ (by decide) r) _) (by omega)) hc
      · rw [if_neg hb]
        exact ⟨_, _, rfl, by omega, by omega, by omega⟩
    | succ d ih =>
      intro k s p hk h0 h1 hs
      obtain ⟨k, rfl⟩ : ∃ m, k = m + 1 := ⟨k - 1, by omega⟩
      simp only [spec_l20Dance.l0]
      rw [if_pos (by omega)]
      simp only [Option.bind_some]
      obtain ⟨r, e2, h4, h5, _⟩ := pick_ev k (by omega) l hl p 6 (by omega) (by omega)
      rw [e2]
      simp only [Option.bind_some]
      have h6 := h5 (by omega)
      rw [if_pos h4, if_pos (by simp only [List.length_cons, List.length_nil]; omega), if_pos (Nat.le_trans (Nat.add_le_add_left (rdOf_sz _ (by decide) r) _) (by omega)), w64 (by omega)]
      have h7 := rdOf_sz [(⟨#[84]⟩ : ByteArray), (⟨#[84]⟩ : ByteArray), (⟨#[82]⟩ : ByteArray), (⟨#[116]⟩ : ByteArray), (⟨#[82]⟩ : ByteArray), (⟨#[84]⟩ : ByteArray)] (by decide) r
      have e3 : ((d + 1 : Nat) : Int) - 1 = (d : Int) := by omega
      rw [e3]
      obtain ⟨t, p', e4, h8, h9, h10⟩ := ih k (s ++ rdOf ByteArray.empty [(⟨#[84]⟩ : ByteArray), (⟨#[84]⟩ : ByteArray), (⟨#[82]⟩ : ByteArray), (⟨#[116]⟩ : ByteArray), (⟨#[82]⟩ : ByteArray), (⟨#[84]⟩ : ByteArray)] r) (p + 1) (by omega) (by omega) (by omega) (by rw [ByteArray.size_append]; omega)
      rw [ByteArray.size_append] at h10
      exact ⟨t, p', e4, by omega, by omega, by omega⟩
  unfold spec_l20Dance.f
  rw [w64 (by omega)]
  obtain ⟨r, e1, h1, h2, _⟩ := pick_ev k (by omega) l hl p (a + 1) (by omega) (by omega)
  rw [e1]
  simp only [Option.bind_some]
  have h3 := h2 (by omega)
  obtain ⟨d, rfl⟩ : ∃ d : Nat, r = d := ⟨r.toNat, by omega⟩
  obtain ⟨t, p', e4, h8, h9, h10⟩ := j d k (⟨#[]⟩ : ByteArray) (p + 1) (by omega) (by omega) (by omega) (by show 0 + 50 * d ≤ 100000; omega)
  have e0 : (⟨#[]⟩ : ByteArray).size = 0 := rfl
  rw [e0] at h10
  exact ⟨t, p', e4, by omega, by omega, by omega⟩
theorem map_ev (k : Nat) (hk : 1000004 ≤ k) (l : List Int) (hl : Bs l) (p n : Int) (hp : 0 ≤ p ∧ p ≤ 800000) (hn : n ≤ 10000000) :
    ∃ a b c d p', spec_l20Map.f k l p n = some (a, b, c, d, p') ∧ p ≤ p' ∧ p' ≤ p + 30 := by
  have j : ∀ (k : Nat) (p a b c d : Int), 2 ≤ k → 0 ≤ p → p ≤ 900010 → ∃ a' b' c' d' p', spec_l20Map.j0 k n l p a b c d = some (a', b', c', d', p') ∧ p ≤ p' ∧ p' ≤ p + 2 := by
    intro k p a b c d hk h0 h1
    obtain ⟨k, rfl⟩ : ∃ m, k = m + 1 := ⟨k - 1, by omega⟩
    simp only [spec_l20Map.j0]
    obtain ⟨b, p', e, h2, h3⟩ := odd_ev k (by omega) l hl p n (by omega) hn
    rw [e]
    simp only [Option.bind_some]
    by_cases hb : b = true
    · rw [if_pos hb]
      obtain ⟨r, e2, h4, h5, _⟩ := pick_ev k (by omega) l hl p' 4 (by omega) (by omega)
      rw [e2]
      simp only [Option.bind_some]
      have h6 := h5 (by omega)
      rw [if_pos h4, if_pos (by simp only [List.length_cons, List.length_nil]; omega)]
      exact ⟨_, _, _, _, _, rfl, by omega, by omega⟩
    · rw [if_neg hb]
      exact ⟨_, _, _, _, _, rfl, by omega, by omega⟩
  unfold spec_l20Map.f
  obtain ⟨s, p1, e1, h1, h2, h3⟩ := dance_ev k l hl p 12 0 (by omega) (by omega) (by omega) (by omega)
  rw [e1]
  simp only [Option.bind_some]
  obtain ⟨a, b, c, d, ok, e2, _⟩ := spec_MapOf_some k s (by omega) (by omega)
  rw [e2]
  simp only [Option.bind_some]
  split
  · obtain ⟨a', b', c', d', p', e, q1, q2⟩ := j k p1 a b c d (by omega) (by omega) (by omega)
    exact ⟨_, _, _, _, _, e, by omega, by omega⟩
  · obtain ⟨a', b', c', d', p', e, q1, q2⟩ := j k p1 1 0 0 1 (by omega) (by omega) (by omega)
    exact ⟨_, _, _, _, _, e, by omega, by omega⟩
theorem impl_LedBy_ev (k : Nat) (hk : 1000003 ≤ k) (a b c d u v : Int) : impl_LedBy.f k a b c d u v = some (if Mp a b c d ∧ Fr u v then led a b c d u v else (0, 0, false)) := by
  unfold impl_LedBy.f
  simp only [impl_isMap_ev, impl_isFraction_ev k (by omega), Option.bind_some, decide_eq_true_eq]
  by_cases h1 : Mp a b c d
  · rw [if_pos h1]
    by_cases h2 : Fr u v
    · have hp : Mp a b c d ∧ Fr u v := ⟨h1, h2⟩
      obtain ⟨pa, pb, pc, pd, _⟩ := h1
      rw [if_pos h2, if_pos hp, wtwo pa h2.pu pb h2.pd, wtwo pc h2.pu pd h2.pd, impl_LowestOf_ev k (by omega)]
      rfl
    · rw [if_neg h2, if_neg (fun x => h2 x.2)]
  · rw [if_neg h1, if_neg (fun x => h1 x.1)]
theorem led_cases (a b c d u v : Int) : (led a b c d u v).2.2 = true → Pt (a * u + b * v) ∧ Pt (c * u + d * v) ∧ ¬(a * u + b * v = 0 ∧ c * u + d * v = 0) ∧ (led a b c d u v).1 = lowU (a * u + b * v) (c * u + d * v) ∧ (led a b c d u v).2.1 = lowD (a * u + b * v) (c * u + d * v) := by
  unfold led
  intro h
  split at h
  · rename_i h'
    rw [if_pos h']
    exact ⟨h'.1, h'.2.1, h'.2.2, rfl, rfl⟩
  · cases h
theorem fr_map_gcd {a b c d u v : Int} (hdet : a * d - b * c = 1) (hf : Fr u v) : Int.gcd (a * u + b * v) (c * u + d * v) = 1 := by
  have hg := hf.2.2.2.2.2
  have h1 : (Int.gcd (a * u + b * v) (c * u + d * v) : Int) ∣ u := by
    have e : u = d * (a * u + b * v) - b * (c * u + d * v) := by grind
    have x := gcd_dvd (a * u + b * v) (c * u + d * v)
    generalize (Int.gcd (a * u + b * v) (c * u + d * v) : Int) = g at x ⊢
    rw [e]
    exact Int.dvd_sub (Int.dvd_mul_of_dvd_right x.1) (Int.dvd_mul_of_dvd_right x.2)
  have h2 : (Int.gcd (a * u + b * v) (c * u + d * v) : Int) ∣ v := by
    have e : v = a * (c * u + d * v) - c * (a * u + b * v) := by grind
    have x := gcd_dvd (a * u + b * v) (c * u + d * v)
    generalize (Int.gcd (a * u + b * v) (c * u + d * v) : Int) = g at x ⊢
    rw [e]
    exact Int.dvd_sub (Int.dvd_mul_of_dvd_right x.2) (Int.dvd_mul_of_dvd_right x.1)
  have h3 := Int.dvd_coe_gcd h1 h2
  rw [hg] at h3
  have := Int.le_of_dvd (by decide) h3
  have hp := Nat.eq_zero_or_pos (Int.gcd (a * u + b * v) (c * u + d * v))
  rcases hp with h | h
  · rw [h] at h3
    have : (0 : Int) ∣ 1 := h3
    omega
  · omega
theorem led_law {a b c d a' b' c' d' A B C D u v : Int} (h1 : Mp a b c d) (h2 : Mp a' b' c' d') (hb : bh a b c d a' b' c' d' = (A, B, C, D, true)) (hf : Fr u v) (o1 : (led a b c d u v).2.2 = true)
    (o2 : (led a' b' c' d' (led a b c d u v).1 (led a b c d u v).2.1).2.2 = true) (o3 : (led A B C D u v).2.2 = true) :
    (led a' b' c' d' (led a b c d u v).1 (led a b c d u v).2.1).1 = (led A B C D u v).1 ∧ (led a' b' c' d' (led a b c d u v).1 (led a b c d u v).2.1).2.1 = (led A B C D u v).2.1 := by
  obtain ⟨p1, p2, p3, p4, p5⟩ := led_cases _ _ _ _ _ _ o1
  obtain ⟨q1, q2, q3, q4, q5⟩ := led_cases _ _ _ _ _ _ o2
  obtain ⟨r1, r2, r3, r4, r5⟩ := led_cases _ _ _ _ _ _ o3
  rw [q4, q5, r4, r5]
  rw [p4, p5] at q1 q2 q3 ⊢
  have hg := fr_map_gcd h1.2.2.2.2.1 hf
  obtain ⟨e1, e2⟩ := low_one hg
  have hM : (A = a' * a + b' * c ∧ B = a' * b + b' * d ∧ C = c' * a + d' * c ∧ D = c' * b + d' * d) ∨ (A = -(a' * a + b' * c) ∧ B = -(a' * b + b' * d) ∧ C = -(c' * a + d' * c) ∧ D = -(c' * b + d' * d)) := by
    have hc : ∀ x y z w : Int, sgn5 x y z w = (x, y, z, w) ∨ sgn5 x y z w = (-x, -y, -z, -w) := by
      intro x y z w
      unfold sgn5
      split
      · exact Or.inr rfl
      · exact Or.inl rfl
    have hd : ∀ m : Int × Int × Int × Int, m5 m = (A, B, C, D, true) → A = m.1 ∧ B = m.2.1 ∧ C = m.2.2.1 ∧ D = m.2.2.2 := by
      intro m h
      unfold m5 at h
      split at h
      · simp only [Prod.mk.injEq] at h
        exact ⟨h.1.symm, h.2.1.symm, h.2.2.1.symm, h.2.2.2.1.symm⟩
      · simp only [Prod.mk.injEq] at h
        exact absurd h.2.2.2.2 (by simp)
    have he := hd _ hb
    rcases hc (a' * a + b' * c) (a' * b + b' * d) (c' * a + d' * c) (c' * b + d' * d) with h | h
    · left; rw [h] at he; exact he
    · right; rw [h] at he; exact he
  have key : ∀ x y z w : Int, ¬(x = 0 ∧ y = 0) → (z = x ∧ w = y ∨ z = -x ∧ w = -y) → lowU x y = lowU z w ∧ lowD x y = lowD z w := by
    intro x y z w hn h
    rcases h with ⟨h, h'⟩ | ⟨h, h'⟩
    · rw [h, h']; exact ⟨rfl, rfl⟩
    · rw [h, h']
      have := low_neg x y hn
      exact ⟨this.1.symm, this.2.symm⟩
  apply key _ _ _ _ q3
  rw [e1, e2]
  by_cases hs : c * u + d * v < 0 ∨ (c * u + d * v = 0 ∧ a * u + b * v < 0)
  · rw [if_pos hs, if_pos hs]
    rcases hM with ⟨m1, m2, m3, m4⟩ | ⟨m1, m2, m3, m4⟩
    · right; rw [m1, m2, m3, m4]; constructor <;> grind
    · left; rw [m1, m2, m3, m4]; constructor <;> grind
  · rw [if_neg hs, if_neg hs]
    rcases hM with ⟨m1, m2, m3, m4⟩ | ⟨m1, m2, m3, m4⟩
    · left; rw [m1, m2, m3, m4]; constructor <;> grind
    · right; rw [m1, m2, m3, m4]; constructor <;> grind
theorem behind_l0 (L : List S25) (a b c d a' b' c' d' A B C D : Int) (h1 : Mp a b c d) (h2 : Mp a' b' c' d') (hP : Mp A B C D) (hb : bh a b c d a' b' c' d' = (A, B, C, D, true)) (hL : ∀ i : Nat, i < L.length → Fr (rd_T25 L i).f0 (rd_T25 L i).f1) (hn : L.length ≤ 1000) (n : Nat) :
    ∀ (k : Nat) (i : Int), 1000010 + n ≤ k → 0 ≤ i → i + n = L.length → laws_FnBehindOf.l0 k L (L.length : Int) i a b c d a' b' c' d' A B C D = some true := by
  induction n with
  | zero =>
    intro k i hk h0 hi
    obtain ⟨k, rfl⟩ : ∃ m, k = m + 1 := ⟨k - 1, by omega⟩
    simp only [laws_FnBehindOf.l0]
    have p1 : Mp 1 0 0 1 ∧ Mp a b c d := ⟨by decide, h1⟩
    have p2 : Mp a b c d ∧ Mp 1 0 0 1 := ⟨h1, by decide⟩
    have e2 : bh a b c d 1 0 0 1 = (a, b, c, d, true) := by
      have := h1.2.2.2.2.2
      unfold bh
      have x1 : 1 * a + 0 * c = a := by omega
      have x2 : 1 * b + 0 * d = b := by omega
      have x3 : 0 * a + 1 * c = c := by omega
      have x4 : 0 * b + 1 * d = d := by omega
      have e : sgn5 a b c d = (a, b, c, d) := by unfold sgn5; rw [if_neg (by omega)]
      rw [x1, x2, x3, x4, e]
      unfold m5
      rw [if_pos h1]
    rw [if_neg (by omega), impl_BehindOf_ev _ (by omega), if_pos p1, bh_id h1, impl_BehindOf_ev _ (by omega), if_pos p2, e2, impl_MapOk_ev, decide_eq_true hP]
    simp
  | succ n ih =>
    intro k i hk h0 hi
    obtain ⟨k, rfl⟩ : ∃ m, k = m + 1 := ⟨k - 1, by omega⟩
    simp only [laws_FnBehindOf.l0]
    have hf := hL i.toNat (by omega)
    have ei : (i.toNat : Int) = i := by omega
    rw [ei] at hf
    rw [if_pos (by omega), if_pos h0, if_pos (by omega), w64 (by omega), ih k (i + 1) (by omega) (by omega) (by omega)]
    generalize (rd_T25 L i).f0 = u at hf ⊢
    generalize (rd_T25 L i).f1 = v at hf ⊢
    have p1 : Mp a b c d ∧ Fr u v := ⟨h1, hf⟩
    have p3 : Mp A B C D ∧ Fr u v := ⟨hP, hf⟩
    rw [impl_LedBy_ev k (by omega), if_pos p1, impl_LedBy_ev k (by omega) A B C D, if_pos p3]
    simp only [Option.bind_some]
    rw [impl_LedBy_ev k (by omega)]
    simp only [Option.bind_some]
    by_cases c1 : (led a b c d u v).2.2 = true
    · rw [if_pos c1]
      have hg : Fr (led a b c d u v).1 (led a b c d u v).2.1 := by
        obtain ⟨p1, p2, p3, p4, p5⟩ := led_cases _ _ _ _ _ _ c1
        rw [p4, p5]
        exact low_fr p1 p2 p3
      have p2 : Mp a' b' c' d' ∧ Fr (led a b c d u v).1 (led a b c d u v).2.1 := ⟨h2, hg⟩
      rw [if_pos p2]
      by_cases c2 : (led a' b' c' d' (led a b c d u v).1 (led a b c d u v).2.1).2.2 = true
      · rw [if_pos c2]
        by_cases c3 : (led A B C D u v).2.2 = true
        · rw [if_pos c3]
          have := led_law h1 h2 hb hf c1 c2 c3
          rw [if_neg (by rw [this.1, this.2]; simp)]
        · rw [if_neg c3]
      · rw [if_neg c2]
    · rw [if_neg c1]
theorem behind_core (k : Nat) (hk : 1000100 ≤ k) (a b c d a' b' c' d' A B C D : Int) (h1 : Mp a b c d) (h2 : Mp a' b' c' d') (hP : Mp A B C D) (hb : bh a b c d a' b' c' d' = (A, B, C, D, true)) :
    laws_FnBehindOf.j0 k true false a b c d a' b' c' d' A B C D = some true := by
  obtain ⟨k, rfl⟩ : ∃ m, k = m + 1 := ⟨k - 1, by omega⟩
  simp only [laws_FnBehindOf.j0, Option.bind_some]
  rw [if_neg (by simp), if_pos trivial]
  refine behind_l0 _ a b c d a' b' c' d' A B C D h1 h2 hP hb ?_ (by decide) 3 k 0 (by omega) (by omega) (by decide)
  intro i hi
  have : i = 0 ∨ i = 1 ∨ i = 2 := by simp at hi; omega
  rcases this with rfl | rfl | rfl <;> decide
theorem FnBehindOf : laws_FnBehindOf.Pure := by
  intro l _ _ hw
  refine ⟨1000110, ?_⟩
  unfold laws_FnBehindOf.f
  by_cases hn : (l.length : Int) > 1048576
  · rw [if_pos hn]
  · rw [if_neg hn]
    obtain ⟨m, e1, hm⟩ := open_ev l hw
    obtain ⟨a, b, c, d, p', e2, hp1, hp2⟩ := map_ev 1000110 (by omega) m hm 0 14 (by omega) (by omega)
    obtain ⟨a', b', c', d', p'', e4, _⟩ := map_ev 1000110 (by omega) m hm p' 14 (by omega) (by omega)
    have e3 : spec_DrawBehindOf.f 1000110 l = some (a, b, c, d, a', b', c', d') := by
      unfold spec_DrawBehindOf.f
      rw [e1]
      simp only [Option.bind_some]
      rw [e2]
      simp only [Option.bind_some]
      rw [e4]; rfl
    rw [e3]
    simp only [Option.bind_some]
    rw [impl_BehindOf_ev _ (by omega), spec_BehindOf_ev _ (by omega)]
    simp only [Option.bind_some]
    rw [if_neg (by simp)]
    have hz : ∀ b : Bool, (b != b) = false := by decide
    rw [hz]
    have dead : laws_FnBehindOf.j0 1000110 false false a b c d a' b' c' d' 0 0 0 0 = some true := by
      simp only [laws_FnBehindOf.j0, alive_ev 1000109 (by omega)]
      simp
    by_cases h : Mp a b c d ∧ Mp a' b' c' d'
    · simp only [if_pos h]
      rcases bh_or a b c d a' b' c' d' with ⟨A, B, C, D, e, hP⟩ | e
      · rw [e]
        exact behind_core _ (by omega) a b c d a' b' c' d' A B C D h.1 h.2 hP e
      · rw [e]; exact dead
    · simp only [if_neg h]; exact dead
end Go.Proofs.Ytmckeejjddablaa.Pure
