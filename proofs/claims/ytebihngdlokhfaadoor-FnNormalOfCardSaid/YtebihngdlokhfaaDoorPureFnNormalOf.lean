/- What the walked law FnNormalOf computes, answers true. -/
import Derived.Test.YtebihngdlokhfaaDoorPFnNormalOfx11
import Derived.OpenShut
namespace Go.Proofs.YtebihngdlokhfaaDoor.Pure
open Go.RowKit Go.Proofs.YtebihngdlokhfaaDoor.PFnNormalOf Go.Proofs.YtebihngdlokhfaaDoorW.PrintWords Go.Proofs.YtebihngdlokhfaaDoorW.PrintLast Go.Proofs.YtebihngdlokhfaaDoorW.PrintMore
set_option linter.unusedVariables false
set_option linter.unusedSimpArgs false
theorem st {P : Prop} [Decidable P] (h : P) : some true = some (decide P) := by simp [h]
theorem sf {P : Prop} [Decidable P] (h : ¬P) : some false = some (decide P) := by simp [h]
theorem sd {P Q : Prop} [Decidable P] [Decidable Q] (h : P ↔ Q) : some (decide P) = some (decide Q) := by simp [h]
theorem w64 {n : Int} (h : -9223372036854775808 ≤ n ∧ n ≤ 9223372036854775807) : wrap64 n = n := by unfold wrap64; omega
def Fr (u d : Int) : Prop := -1000000 ≤ u ∧ u ≤ 1000000 ∧ 0 ≤ d ∧ d ≤ 1000000 ∧ (d = 0 → u = 1) ∧ (Int.gcd u d = 1)
instance (u d : Int) : Decidable (Fr u d) := by unfold Fr; exact inferInstance
def Pt (n : Int) : Prop := -1000000 ≤ n ∧ n ≤ 1000000
instance (n : Int) : Decidable (Pt n) := by unfold Pt; exact inferInstance
theorem gcd_step (a b : Int) : Int.gcd b (Int.tmod a b) = Int.gcd a b := by
  unfold Int.gcd
  rw [Int.natAbs_tmod, Nat.gcd_comm a.natAbs b.natAbs, Nat.gcd_rec b.natAbs a.natAbs, Nat.gcd_comm]
theorem tmod_lt (a b : Int) (h : b ≠ 0) : (Int.tmod a b).natAbs < b.natAbs := by
  rw [Int.natAbs_tmod]
  exact Nat.mod_lt _ (by omega)
theorem tdiv_le (a b : Int) : (Int.tdiv a b).natAbs ≤ a.natAbs := by
  rw [Int.natAbs_tdiv]
  exact Nat.div_le_self _ _
theorem tdiv_w (a b : Int) (h : -1000000 ≤ a ∧ a ≤ 1000000) : wrap64 (Int.tdiv a b) = Int.tdiv a b := by
  have := tdiv_le a b
  exact w64 (by omega)
theorem gcd_le_pt (a b : Int) (ha : Pt a) (hb : Pt b) : (Int.gcd a b : Int) ≤ 1000000 := by
  unfold Pt at ha hb
  by_cases h : a = 0
  · subst h
    rw [Int.zero_gcd]
    omega
  · have := Int.gcd_le_natAbs_left b h
    omega
theorem gcd_pos (a b : Int) (h : ¬(a = 0 ∧ b = 0)) : 0 < Int.gcd a b := by
  rcases Nat.eq_zero_or_pos (Int.gcd a b) with h' | h'
  · exact absurd (Int.gcd_eq_zero_iff.mp h') h
  · exact h'
def sg (u d : Int) : Int := if d < 0 ∨ (d = 0 ∧ u < 0) then -(Int.gcd u d : Int) else (Int.gcd u d : Int)
def lowU (u d : Int) : Int := Int.tdiv u (sg u d)
def lowD (u d : Int) : Int := Int.tdiv d (sg u d)
theorem mulb {a b : Int} (ha : Pt a) (hb : Pt b) : -1000000000000 ≤ a * b ∧ a * b ≤ 1000000000000 := by
  unfold Pt at ha hb
  have h1 : a.natAbs ≤ 1000000 := by omega
  have h2 : b.natAbs ≤ 1000000 := by omega
  have := Nat.mul_le_mul h1 h2
  rw [← Int.natAbs_mul] at this
  omega
theorem wmul {a b : Int} (ha : Pt a) (hb : Pt b) : wrap64 (a * b) = a * b := by
  have := mulb ha hb
  exact w64 (by omega)
theorem low_one {u d : Int} (h : Int.gcd u d = 1) : lowU u d = (if d < 0 ∨ (d = 0 ∧ u < 0) then -u else u) ∧ lowD u d = (if d < 0 ∨ (d = 0 ∧ u < 0) then -d else d) := by
  unfold lowU lowD sg
  rw [h]
  split
  · simp
  · simp
theorem ltge (a b : Int) : a < b ∨ b ≤ a := by omega
theorem gcd_dvd (u d : Int) : (Int.gcd u d : Int) ∣ u ∧ (Int.gcd u d : Int) ∣ d := ⟨Int.gcd_dvd_left u d, Int.gcd_dvd_right u d⟩
theorem wtwo {x y z w : Int} (hx : Pt x) (hy : Pt y) (hz : Pt z) (hw : Pt w) : wrap64 (wrap64 (x * y) + wrap64 (z * w)) = x * y + z * w := by
  have h1 := mulb hx hy
  have h2 := mulb hz hw
  rw [wmul hx hy, wmul hz hw]
  exact w64 (by omega)
def Bg (n : Int) : Prop := -2000000000000 ≤ n ∧ n ≤ 2000000000000
theorem two_bg {x y z w : Int} (hx : Pt x) (hy : Pt y) (hz : Pt z) (hw : Pt w) : Bg (x * y + z * w) := by
  have h1 := mulb hx hy
  have h2 := mulb hz hw
  unfold Bg; omega
theorem bg_neg {n : Int} (h : Bg n) : wrap64 (-n) = -n := by unfold Bg at h; exact w64 (by omega)
def t2 (n : Int) : Bool := decide (2 ≤ n ∧ n ≤ 60)
def ofL (l : List UInt8) : ByteArray := ⟨l.toArray⟩
theorem ofL_size (l : List UInt8) : (ofL l).size = l.length := by simp [ofL, ByteArray.size]
theorem ofL_app (l m : List UInt8) : ofL l ++ ofL m = ofL (l ++ m) := by
  apply ByteArray.ext; simp [ofL]
theorem ofL_data (l : List UInt8) : (ofL l).data.toList = l := by simp [ofL]
theorem bt_get (s : ByteArray) (i : Int) (h0 : 0 ≤ i) (h : i.toNat < s.size) : bt s i = (s.data.toList[i.toNat]'(by simpa using h)).toNat := by
  unfold bt
  rw [dif_pos h]
  rfl
theorem rd_eq (xs : List Int) (i : Int) (h0 : 0 ≤ i) (h : i.toNat < xs.length) : rd xs i = xs[i.toNat] := by unfold rd; simp [h]
def mv (c : UInt8) : Bool := c == 84 || c == 116 || c == 82
def dok (l : List UInt8) : Bool := l.all mv
theorem mv_iff (c : UInt8) : mv c = true ↔ ((c.toNat : Int) = 84 ∨ (c.toNat : Int) = 116 ∨ (c.toNat : Int) = 82) := by
  unfold mv
  simp only [Bool.or_eq_true, beq_iff_eq]
  have e1 : (84 : UInt8).toNat = 84 := rfl
  have e2 : (116 : UInt8).toNat = 116 := rfl
  have e3 : (82 : UInt8).toNat = 82 := rfl
  rw [← UInt8.toNat_inj, ← UInt8.toNat_inj, ← UInt8.toNat_inj, e1, e2, e3]
  omega
def Dn (s : ByteArray) : Prop := dok s.data.toList = true ∧ s.size ≤ 40
instance (s : ByteArray) : Decidable (Dn s) := by unfold Dn; exact inferInstance
theorem u8_eq (c : UInt8) (n : Nat) (hn : n < 256) : ((c.toNat : Int) = (n : Int)) ↔ c = UInt8.ofNat n := by
  constructor
  · intro h
    have : c.toNat = n := by omega
    rw [← UInt8.toNat_inj, this]
    simp
    omega
  · intro h
    rw [h]
    simp
    omega
theorem impl_isPart_ev (n : Int) : impl_isPart.f n = some (decide (Pt n)) := by
  unfold impl_isPart.f Pt
  split
  · exact sd (by omega)
  · exact sf (by omega)
theorem spec_l1In_ev (n a b : Int) : spec_l1In.f n a b = some (decide (a ≤ n ∧ n ≤ b)) := by
  unfold spec_l1In.f
  split
  · exact sd (by omega)
  · exact sf (by omega)
theorem impl_gcd_l0 (n : Nat) : ∀ (k : Nat) (a b : Int), b.natAbs ≤ n → n < k → a.natAbs ≤ 4611686018427387904 → b.natAbs ≤ 4611686018427387904 → impl_gcd.l0 k a b = some (Int.gcd a b : Int) := by
  induction n with
  | zero =>
    intro k a b hb hk ha _
    obtain ⟨k, rfl⟩ : ∃ m, k = m + 1 := ⟨k - 1, by omega⟩
    have hb0 : b = 0 := by omega
    simp only [impl_gcd.l0]
    rw [if_pos hb0, w64 (by omega), hb0, Int.gcd_zero_right]
    unfold mx; congr 1; split <;> omega
  | succ n ih =>
    intro k a b hb hk ha hb'
    obtain ⟨k, rfl⟩ : ∃ m, k = m + 1 := ⟨k - 1, by omega⟩
    simp only [impl_gcd.l0]
    by_cases h : b = 0
    · rw [if_pos h, w64 (by omega), h, Int.gcd_zero_right]
      unfold mx; congr 1; split <;> omega
    · rw [if_neg h]
      have := tmod_lt a b h
      rw [ih k b (Int.tmod a b) (by omega) (by omega) (by omega) (by omega), gcd_step]
theorem impl_gcd_ev (k : Nat) (hk : 1000002 ≤ k) (a b : Int) (ha : Pt a) (hb : Pt b) : impl_gcd.f k a b = some (Int.gcd a b : Int) := by
  unfold Pt at ha hb
  exact impl_gcd_l0 1000001 k a b (by omega) (by omega) (by omega) (by omega)
theorem impl_isFraction_ev (k : Nat) (hk : 1000002 ≤ k) (u d : Int) : impl_isFraction.f k u d = some (decide (Fr u d)) := by
  unfold impl_isFraction.f
  simp only [impl_isPart_ev, Option.bind_some, decide_eq_true_eq]
  by_cases hu : Pt u
  · rw [if_pos hu]
    by_cases h1 : d < 0
    · rw [if_pos h1]; exact sf (by intro h; unfold Fr at h; omega)
    · rw [if_neg h1]
      by_cases h2 : d > 1000000
      · rw [if_pos h2]; exact sf (by intro h; unfold Fr at h; omega)
      · rw [if_neg h2]
        have hd : Pt d := by unfold Pt; omega
        rw [impl_gcd_ev k hk u d hu hd]
        unfold Pt at hu
        have e : ((Int.gcd u d : Int) == 1) = decide (Int.gcd u d = 1) := by rw [Bool.eq_iff_iff]; simp; omega
        simp only [Option.bind_some, e]
        by_cases h3 : d = 0
        · rw [if_pos h3]
          by_cases h4 : u = 1
          · rw [if_pos h4]; exact sd (by unfold Fr; omega)
          · rw [if_neg h4]; exact sf (by intro h; unfold Fr at h; omega)
        · rw [if_neg h3]; exact sd (by unfold Fr; omega)
  · rw [if_neg hu]; exact sf (by intro h; unfold Fr at h; unfold Pt at hu; omega)
theorem impl_FractionOk_ev (k : Nat) (hk : 1000002 ≤ k) (u d : Int) : impl_FractionOk.f k u d = some (decide (Fr u d)) := by
  unfold impl_FractionOk.f
  rw [impl_isFraction_ev k hk]; rfl
theorem impl_lowest_ev (k : Nat) (hk : 1000002 ≤ k) (u d : Int) (hu : Pt u) (hd : Pt d) (h : ¬(u = 0 ∧ d = 0)) : impl_lowest.f k u d = some (lowU u d, lowD u d) := by
  unfold impl_lowest.f
  rw [impl_gcd_ev k hk u d hu hd]
  simp only [Option.bind_some]
  have hg := gcd_pos u d h
  have hl := gcd_le_pt u d hu hd
  have e1 : wrap64 (-(Int.gcd u d : Int)) = -(Int.gcd u d : Int) := w64 (by omega)
  unfold lowU lowD sg
  rw [e1]
  simp only [tdiv_w _ _ hu, tdiv_w _ _ hd]
  by_cases h1 : d < 0
  · rw [if_pos h1, if_neg (by omega), if_pos (by omega)]
  · rw [if_neg h1]
    by_cases h2 : d = 0
    · rw [if_pos h2]
      by_cases h3 : u < 0
      · rw [if_pos h3, if_neg (by omega), if_pos (by omega)]
      · rw [if_neg h3, if_neg (by omega), if_neg (by omega)]
    · rw [if_neg h2, if_neg (by omega), if_neg (by omega)]
theorem impl_LowestOf_ev (k : Nat) (hk : 1000002 ≤ k) (u d : Int) : impl_LowestOf.f k u d = some (if Pt u ∧ Pt d ∧ ¬(u = 0 ∧ d = 0) then (lowU u d, lowD u d, true) else (0, 0, false)) := by
  unfold impl_LowestOf.f
  simp only [impl_isPart_ev, Option.bind_some, decide_eq_true_eq]
  by_cases hu : Pt u
  · rw [if_pos hu]
    by_cases hd : Pt d
    · rw [if_pos hd]
      by_cases h : u = 0 ∧ d = 0
      · rw [if_pos h.1, if_pos h.2, if_neg (fun x => x.2.2 h)]
      · have hp : Pt u ∧ Pt d ∧ ¬(u = 0 ∧ d = 0) := ⟨hu, hd, h⟩
        rw [if_pos hp, impl_lowest_ev k hk u d hu hd h]
        simp only [Option.bind_some]
        by_cases h1 : u = 0
        · rw [if_pos h1, if_neg (by omega)]
        · rw [if_neg h1]
    · rw [if_neg hd, if_neg (fun x => hd x.2.1)]
  · rw [if_neg hu, if_neg (fun x => hu x.1)]
def Mp (a b c d : Int) : Prop := Pt a ∧ Pt b ∧ Pt c ∧ Pt d ∧ a * d - b * c = 1 ∧ (0 < c ∨ c = 0 ∧ 0 < d)
instance (a b c d : Int) : Decidable (Mp a b c d) := by unfold Mp; exact inferInstance
theorem wdet {a b c d : Int} (ha : Pt a) (hb : Pt b) (hc : Pt c) (hd : Pt d) : wrap64 (wrap64 (a * d) - wrap64 (b * c)) = a * d - b * c := by
  have h1 := mulb ha hd
  have h2 := mulb hb hc
  rw [wmul ha hd, wmul hb hc]
  exact w64 (by omega)
theorem spec_MapOk_ev (a b c d : Int) : spec_MapOk.f a b c d = some (decide (Mp a b c d)) := by
  have pt : ∀ n : Int, (-1000000 ≤ n ∧ n ≤ 1000000) ↔ Pt n := fun n => Iff.rfl
  unfold spec_MapOk.f
  simp only [spec_l1In_ev, Option.bind_some, decide_eq_true_eq, pt]
  by_cases ha : Pt a
  · rw [if_pos ha]
    by_cases hb : Pt b
    · rw [if_pos hb]
      by_cases hc : 0 ≤ c ∧ c ≤ 1000000
      · rw [if_pos hc]
        have hc' : Pt c := by unfold Pt; omega
        by_cases hd : Pt d
        · rw [if_pos hd, wdet ha hb hc' hd]
          by_cases h : a * d - b * c = 1
          · rw [if_pos h]
            by_cases h3 : c > 0
            · rw [if_pos h3]; exact st ⟨ha, hb, hc', hd, h, Or.inl h3⟩
            · rw [if_neg h3]; exact sd ⟨fun x => ⟨ha, hb, hc', hd, h, Or.inr ⟨by omega, x⟩⟩, fun x => by have := x.2.2.2.2.2; omega⟩
          · rw [if_neg h]; exact sf (fun x => h x.2.2.2.2.1)
        · rw [if_neg hd]; exact sf (fun x => hd x.2.2.2.1)
      · rw [if_neg hc]; exact sf (fun x => hc (by have h1 := x.2.2.1; have h2 := x.2.2.2.2.2; unfold Pt at h1; omega))
    · rw [if_neg hb]; exact sf (fun x => hb x.2.1)
  · rw [if_neg ha]; exact sf (fun x => ha x.1)
theorem impl_isMap_ev (a b c d : Int) : impl_isMap.f a b c d = some (decide (Mp a b c d)) := by
  unfold impl_isMap.f
  simp only [impl_isPart_ev, Option.bind_some, decide_eq_true_eq]
  by_cases ha : Pt a
  · rw [if_pos ha]
    by_cases hb : Pt b
    · rw [if_pos hb]
      by_cases hc : Pt c
      · rw [if_pos hc]
        by_cases hd : Pt d
        · rw [if_pos hd, wdet ha hb hc hd]
          by_cases h : a * d - b * c = 1
          · rw [if_pos h]
            by_cases h3 : c > 0
            · rw [if_pos h3]; exact st ⟨ha, hb, hc, hd, h, Or.inl h3⟩
            · rw [if_neg h3]
              by_cases h4 : c = 0
              · rw [if_pos h4]; exact sd ⟨fun x => ⟨ha, hb, hc, hd, h, Or.inr ⟨h4, x⟩⟩, fun x => by have := x.2.2.2.2.2; omega⟩
              · rw [if_neg h4]; exact sf (fun x => by have := x.2.2.2.2.2; omega)
          · rw [if_neg h]; exact sf (fun x => h x.2.2.2.2.1)
        · rw [if_neg hd]; exact sf (fun x => hd x.2.2.2.1)
      · rw [if_neg hc]; exact sf (fun x => hc x.2.2.1)
    · rw [if_neg hb]; exact sf (fun x => hb x.2.1)
  · rw [if_neg ha]; exact sf (fun x => ha x.1)
def sgn5 (a b c d : Int) : Int × Int × Int × Int := if c < 0 ∨ (c = 0 ∧ d < 0) then (-a, -b, -c, -d) else (a, b, c, d)
def m5 (m : Int × Int × Int × Int) : Int × Int × Int × Int × Bool := if Mp m.1 m.2.1 m.2.2.1 m.2.2.2 then (m.1, m.2.1, m.2.2.1, m.2.2.2, true) else (0, 0, 0, 0, false)
def bh (a b c d a' b' c' d' : Int) : Int × Int × Int × Int × Bool := m5 (sgn5 (a' * a + b' * c) (a' * b + b' * d) (c' * a + d' * c) (c' * b + d' * d))
theorem spec_l5Signed_ev (a b c d : Int) (ha : Bg a) (hb : Bg b) (hc : Bg c) (hd : Bg d) : spec_l5Signed.f a b c d = some (sgn5 a b c d) := by
  unfold spec_l5Signed.f sgn5
  rw [bg_neg ha, bg_neg hb, bg_neg hc, bg_neg hd]
  by_cases h1 : c < 0
  · rw [if_pos h1, if_pos (Or.inl h1)]
  · rw [if_neg h1]
    by_cases h2 : c = 0
    · rw [if_pos h2]
      by_cases h3 : d < 0
      · rw [if_pos h3, if_pos (Or.inr ⟨h2, h3⟩)]
      · rw [if_neg h3, if_neg (by omega)]
    · rw [if_neg h2, if_neg (by omega)]
theorem spec_BehindOf_ev (k : Nat) (hk : 1 ≤ k) (a b c d a' b' c' d' : Int) : spec_BehindOf.f k a b c d a' b' c' d' = some (if Mp a b c d ∧ Mp a' b' c' d' then bh a b c d a' b' c' d' else (0, 0, 0, 0, false)) := by
  obtain ⟨k, rfl⟩ : ∃ m, k = m + 1 := ⟨k - 1, by omega⟩
  unfold spec_BehindOf.f
  simp only [spec_MapOk_ev, Option.bind_some, decide_eq_true_eq]
  by_cases h1 : Mp a b c d
  · rw [if_pos h1]
    by_cases h2 : Mp a' b' c' d'
    · have hp : Mp a b c d ∧ Mp a' b' c' d' := ⟨h1, h2⟩
      rw [if_pos hp]
      obtain ⟨pa, pb, pc, pd, _⟩ := h1
      obtain ⟨pa', pb', pc', pd', _⟩ := id h2
      have : (!decide (Mp a' b' c' d')) = false := by simpa using h2
      rw [this]
      simp only [spec_BehindOf.j0]
      rw [if_neg (by simp), wtwo pa' pa pb' pc, wtwo pa' pb pb' pd, wtwo pc' pa pd' pc, wtwo pc' pb pd' pd]
      rw [spec_l5Signed_ev _ _ _ _ (two_bg pa' pa pb' pc) (two_bg pa' pb pb' pd) (two_bg pc' pa pd' pc) (two_bg pc' pb pd' pd)]
      simp only [spec_MapOk_ev, Option.bind_some, decide_eq_true_eq]
      unfold bh m5
      split <;> rfl
    · have : (!decide (Mp a' b' c' d')) = true := by simpa using h2
      rw [this, if_neg (fun x => h2 x.2)]
      simp only [spec_BehindOf.j0]
      rw [if_pos trivial]
  · rw [if_neg h1, if_neg (fun x => h1 x.1)]
    simp only [spec_BehindOf.j0]
    rw [if_pos trivial]
theorem bh_or (a b c d a' b' c' d' : Int) : (∃ A B C D, bh a b c d a' b' c' d' = (A, B, C, D, true) ∧ Mp A B C D) ∨ bh a b c d a' b' c' d' = (0, 0, 0, 0, false) := by
  unfold bh m5
  split
  · exact Or.inl ⟨_, _, _, _, rfl, by assumption⟩
  · exact Or.inr rfl
theorem impl_behind_j0 (k : Nat) (x : Bool) (a b c d : Int) (ha : Bg a) (hb : Bg b) (hc : Bg c) (hd : Bg d) (hx : x = decide (c < 0 ∨ (c = 0 ∧ d < 0))) : impl_behind.j0 (k + 1) x a b c d = some (m5 (sgn5 a b c d)) := by
  simp only [impl_behind.j0]
  rw [bg_neg ha, bg_neg hb, bg_neg hc, bg_neg hd]
  simp only [impl_isMap_ev, Option.bind_some, decide_eq_true_eq]
  subst hx
  simp only [decide_eq_true_eq]
  unfold m5 sgn5
  by_cases h : c < 0 ∨ (c = 0 ∧ d < 0)
  · rw [if_pos h, if_pos h]
    split <;> rfl
  · rw [if_neg h, if_neg h]
    split <;> rfl
theorem impl_behind_ev (k : Nat) (hk : 1 ≤ k) (a b c d a' b' c' d' : Int) (h1 : Mp a b c d) (h2 : Mp a' b' c' d') : impl_behind.f k a b c d a' b' c' d' = some (bh a b c d a' b' c' d') := by
  obtain ⟨k, rfl⟩ : ∃ m, k = m + 1 := ⟨k - 1, by omega⟩
  obtain ⟨pa, pb, pc, pd, _⟩ := h1
  obtain ⟨pa', pb', pc', pd', _⟩ := h2
  unfold impl_behind.f bh
  rw [wtwo pa' pa pb' pc, wtwo pa' pb pb' pd, wtwo pc' pa pd' pc, wtwo pc' pb pd' pd]
  have j := fun x hx => impl_behind_j0 k x _ _ _ _ (two_bg pa' pa pb' pc) (two_bg pa' pb pb' pd) (two_bg pc' pa pd' pc) (two_bg pc' pb pd' pd) hx
  generalize c' * a + d' * c = m at *
  generalize c' * b + d' * d = n at *
  by_cases h3 : m < 0
  · rw [if_pos h3]; exact j true (by simp [h3])
  · rw [if_neg h3]
    by_cases h4 : m = 0
    · rw [if_pos h4]; exact j _ (by rw [decide_eq_decide]; omega)
    · rw [if_neg h4]; exact j false (by symm; rw [decide_eq_false_iff_not]; omega)
def Bs (l : List Int) : Prop := l.length ≤ 2000 ∧ ∀ i, 0 ≤ rd l i ∧ rd l i ≤ 255
theorem xor_nn (a b : Int) (ha : 0 ≤ a ∧ a ≤ 4611686018427387903) (hb : 0 ≤ b ∧ b ≤ 4611686018427387903) : 0 ≤ Go.bits .xor .i64 a b := by
  obtain ⟨m, rfl⟩ : ∃ m : Nat, a = m := ⟨a.toNat, by omega⟩
  obtain ⟨n, rfl⟩ : ∃ m : Nat, b = m := ⟨b.toNat, by omega⟩
  have hm : m < 2 ^ 62 := by omega
  have hn : n < 2 ^ 62 := by omega
  have hx := Nat.xor_lt_two_pow hm hn
  have e1 : m % 2 ^ IntKind.i64.bits = m := Nat.mod_eq_of_lt (Nat.lt_trans hm (by decide))
  have e2 : n % 2 ^ IntKind.i64.bits = n := Nat.mod_eq_of_lt (Nat.lt_trans hn (by decide))
  simp only [Go.bits, BitVec.ofInt_natCast, BitVec.toNat_xor, BitVec.toNat_ofNat, e1, e2]
  have e3 := IntKind.wrap_i64 ((m ^^^ n : Nat) : Int)
  rw [e3]
  omega
theorem tmod_rng (a n : Int) (ha : 0 ≤ a) (hn : 1 ≤ n) : 0 ≤ Int.tmod a n ∧ Int.tmod a n < n := ⟨Int.tmod_nonneg n ha, Int.tmod_lt_of_pos a (by omega)⟩
theorem pick_ev (k : Nat) (hk : 1 ≤ k) (l : List Int) (hl : Bs l) (p n : Int) (hp : 0 ≤ p ∧ p ≤ 1000000) (hn : n ≤ 10000000) :
    ∃ r, spec_l20Rd_pick.f k l p n = some (r, p + 1) ∧ 0 ≤ r ∧ (1 ≤ n → r < n) ∧ (n < 1 → r = 0) := by
  obtain ⟨k, rfl⟩ : ∃ m, k = m + 1 := ⟨k - 1, by omega⟩
  unfold spec_l20Rd_pick.f
  have e0 : wrap64 (p + 1) = p + 1 := w64 (by omega)
  have e1 : wrap64 (p + 1 - 1) = p := by rw [w64 (by omega)]; omega
  rw [e0]
  by_cases h1 : n < 1
  · rw [if_pos h1]
    simp only [spec_l20Rd_pick.j0]
    rw [if_pos trivial]
    exact ⟨0, rfl, by omega, by omega, fun _ => rfl⟩
  · rw [if_neg h1]
    simp only [spec_l20Rd_pick.j0]
    by_cases h2 : (l.length : Int) = 0
    · rw [if_pos (by simpa using h2)]
      exact ⟨0, rfl, by omega, by omega, fun _ => rfl⟩
    · rw [if_neg (by simpa using h2), e1]
      have hn0 : ¬ n = 0 := by omega
      by_cases h3 : p < (l.length : Int)
      · rw [if_pos h3, if_pos hp.1, if_neg hn0]
        have hr := hl.2 p
        rw [w64 (by omega : -9223372036854775808 ≤ rd l p ∧ _)]
        have := tmod_rng (rd l p) n (by omega) (by omega)
        exact ⟨_, rfl, this.1, fun _ => this.2, by omega⟩
      · rw [if_neg h3, if_neg h2]
        have t1 := tmod_rng p (l.length : Int) hp.1 (by omega)
        have e7 : wrap64 (wrap64 (p * 7) + 3) = p * 7 + 3 := by rw [w64 (by omega : -9223372036854775808 ≤ p * 7 ∧ _), w64 (by omega)]
        rw [e7]
        have t2 := tmod_rng (p * 7 + 3) (l.length : Int) (by omega) (by omega)
        rw [if_pos t1.1, if_pos t1.2, if_pos t2.1, if_pos t2.2, if_neg hn0]
        have r1 := hl.2 (Int.tmod p (l.length : Int))
        have r2 := hl.2 (Int.tmod (p * 7 + 3) (l.length : Int))
        generalize rd l (Int.tmod p (l.length : Int)) = a at r1 ⊢
        generalize rd l (Int.tmod (p * 7 + 3) (l.length : Int)) = b at r2 ⊢
        have q0 := tdiv_le p (l.length : Int)
        have q1 : 0 ≤ Int.tdiv p (l.length : Int) := Int.tdiv_nonneg hp.1 (by omega)
        generalize Int.tdiv p (l.length : Int) = q at q0 q1 ⊢
        have e2 : wrap64 a = a := w64 (by omega)
        have e3 : wrap64 b = b := w64 (by omega)
        have e4 : wrap64 q = q := w64 (by omega)
        rw [e2, e3, e4]
        have e5 : wrap64 (a * 131) = a * 131 := w64 (by omega)
        have e6 : wrap64 (b * 1117) = b * 1117 := w64 (by omega)
        have e8 : wrap64 (q * 53) = q * 53 := w64 (by omega)
        have e9 : wrap64 (p * 29) = p * 29 := w64 (by omega)
        rw [e5, e6, e8, e9]
        have e10 : wrap64 (a * 131 + b * 1117) = a * 131 + b * 1117 := w64 (by omega)
        rw [e10]
        have e11 : wrap64 (a * 131 + b * 1117 + p * 29) = a * 131 + b * 1117 + p * 29 := w64 (by omega)
        rw [e11]
        have e12 : wrap64 (a * 131 + b * 1117 + p * 29 + q * 53) = a * 131 + b * 1117 + p * 29 + q * 53 := w64 (by omega)
        rw [e12]
        have hX : 0 ≤ a * 131 + b * 1117 + p * 29 + q * 53 ∧ a * 131 + b * 1117 + p * 29 + q * 53 ≤ 4611686018427387903 := by omega
        generalize a * 131 + b * 1117 + p * 29 + q * 53 = X at hX ⊢
        have q2 := tdiv_le X 64
        have q3 : 0 ≤ Int.tdiv X 64 := Int.tdiv_nonneg hX.1 (by omega)
        have e13 : wrap64 (Int.tdiv X 64) = Int.tdiv X 64 := w64 (by omega)
        rw [e13]
        have := tmod_rng _ n (xor_nn X (Int.tdiv X 64) hX (by omega)) (by omega)
        exact ⟨_, rfl, this.1, fun _ => this.2, by omega⟩
theorem odd_ev (k : Nat) (hk : 1 ≤ k) (l : List Int) (hl : Bs l) (p n : Int) (hp : 0 ≤ p ∧ p ≤ 1000000) (hn : n ≤ 10000000) :
    ∃ b p', spec_l20Rd_odd.f k l p n = some (b, p') ∧ p ≤ p' ∧ p' ≤ p + 1 := by
  unfold spec_l20Rd_odd.f
  by_cases h : n > 0
  · rw [if_pos h]
    obtain ⟨r, e, _⟩ := pick_ev k hk l hl p n hp hn
    rw [e]
    exact ⟨_, _, rfl, by omega, by omega⟩
  · rw [if_neg h]; exact ⟨_, _, rfl, by omega, by omega⟩
theorem open_ev (l : List Int) (hw : ∀ x ∈ l, (Lit.int .u8 x).wf = true) : ∃ m, spec_l20Open.f l = some (m, 0) ∧ Bs m := by
  have key : ∀ m : List Int, m.length ≤ 2000 → (∀ x ∈ m, x ∈ l) → Bs m := by
    intro m hm hs
    refine ⟨hm, fun i => ?_⟩
    unfold rd
    by_cases h : i.toNat < m.length
    · have : m.getD i.toNat 0 = m[i.toNat] := by simp [h]
      rw [this]
      have h1 := hw _ (hs _ (List.getElem_mem h))
      simp [Lit.wf, IntKind.min, IntKind.max, IntKind.signed, IntKind.bits] at h1
      omega
    · have : m.getD i.toNat 0 = 0 := by simp [Nat.le_of_not_lt h]
      rw [this]; omega
  unfold spec_l20Open.f
  by_cases h : (l.length : Int) > 2000
  · rw [if_pos h, if_pos (by omega)]
    exact ⟨_, rfl, key _ (by simp; omega) (fun x hx => List.mem_of_mem_take hx)⟩
  · rw [if_neg h]
    exact ⟨_, rfl, key _ (by omega) (fun x hx => hx)⟩
theorem alive_ev (k : Nat) (hk : 1000002 ≤ k) : laws_alive.f k = some true := by
  unfold laws_alive.f
  simp only [impl_FractionOk_ev k hk, Option.bind_some]
  decide
theorem spec_DanceOk_l0 (s : ByteArray) (hn : s.size ≤ 1000000000) (d : Nat) : ∀ (k : Nat) (i : Int), 0 ≤ i → i + d = s.size → d < k → spec_DanceOk.l0 k s i = some (decide (dok (s.data.toList.drop i.toNat) = true ∧ s.size ≤ 40)) := by
  have hsz : s.data.toList.length = s.size := by simp
  induction d with
  | zero =>
    intro k i h0 hd hk
    obtain ⟨k, rfl⟩ : ∃ m, k = m + 1 := ⟨k - 1, by omega⟩
    simp only [spec_DanceOk.l0]
    rw [if_neg (by omega), List.drop_eq_nil_of_le (by omega)]
    exact sd ⟨fun x => ⟨rfl, by omega⟩, fun x => by omega⟩
  | succ d ih =>
    intro k i h0 hd hk
    obtain ⟨k, rfl⟩ : ∃ m, k = m + 1 := ⟨k - 1, by omega⟩
    simp only [spec_DanceOk.l0]
    have h1 : i.toNat < s.size := by omega
    have h2 : i.toNat < s.data.toList.length := by omega
    rw [if_pos (by omega), if_pos h0, w64 (by omega), ih k (i + 1) (by omega) (by omega) (by omega)]
    have e : (i + 1).toNat = i.toNat + 1 := by omega
    rw [e, bt_get s i h0 h1, List.drop_eq_getElem_cons h2]
    generalize s.data.toList[i.toNat] = c
    have hm := mv_iff c
    have hc : dok (c :: List.drop (i.toNat + 1) s.data.toList) = (mv c && dok (List.drop (i.toNat + 1) s.data.toList)) := rfl
    rw [hc]
    by_cases c1 : (c.toNat : Int) = 84
    · rw [if_pos c1]; have : mv c = true := hm.2 (Or.inl c1); rw [this, Bool.true_and]
    · rw [if_neg c1]
      by_cases c2 : (c.toNat : Int) = 116
      · rw [if_pos c2]; have : mv c = true := hm.2 (Or.inr (Or.inl c2)); rw [this, Bool.true_and]
      · rw [if_neg c2]
        by_cases c3 : (c.toNat : Int) = 82
        · rw [if_pos c3]; have : mv c = true := hm.2 (Or.inr (Or.inr c3)); rw [this, Bool.true_and]
        · rw [if_neg c3]
          have : mv c = false := by
            rcases Bool.eq_false_or_eq_true (mv c) with h | h
            · have := hm.1 h; omega
            · exact h
          rw [this, Bool.false_and]
          exact sf (by simp)
theorem spec_DanceOk_ev (k : Nat) (s : ByteArray) (hk : s.size < k) (hn : s.size ≤ 1000000000) : spec_DanceOk.f k s = some (decide (Dn s)) := by
  unfold spec_DanceOk.f
  rw [spec_DanceOk_l0 s hn s.size k 0 (by omega) (by omega) hk]
  rfl
theorem spec_l5Move_mp (c : Int) : ∃ a b c' d, spec_l5Move.f c = some (a, b, c', d) ∧ Mp a b c' d := by
  unfold spec_l5Move.f
  split
  · exact ⟨_, _, _, _, rfl, by decide⟩
  · split
    · exact ⟨_, _, _, _, rfl, by decide⟩
    · exact ⟨_, _, _, _, rfl, by decide⟩
theorem spec_MapOf_some (k : Nat) (s : ByteArray) (hk : s.size + 2 < k) (hn : s.size ≤ 1000000000) : ∃ a b c d ok, spec_MapOf.f k s = some (a, b, c, d, ok) ∧ (ok = true → Mp a b c d) := by
  have l : ∀ (d : Nat) (k : Nat) (i A B C D : Int), 0 ≤ i → i + d = s.size → d + 1 < k → Mp A B C D → ∃ a b c e ok, spec_MapOf.l0 k s i A B C D = some (a, b, c, e, ok) ∧ (ok = true → Mp a b c e) := by
    intro d
    induction d with
    | zero =>
      intro k i A B C D h0 hd hk hP
      obtain ⟨k, rfl⟩ : ∃ m, k = m + 1 := ⟨k - 1, by omega⟩
      simp only [spec_MapOf.l0]
      rw [if_neg (by omega)]
      exact ⟨_, _, _, _, _, rfl, fun _ => hP⟩
    | succ d ih =>
      intro k i A B C D h0 hd hk hP
      obtain ⟨k, rfl⟩ : ∃ m, k = m + 1 := ⟨k - 1, by omega⟩
      simp only [spec_MapOf.l0]
      rw [if_pos (by omega), if_pos h0, w64 (by omega)]
      obtain ⟨a', b', c', d', e, hm⟩ := spec_l5Move_mp (bt s i)
      rw [e]
      simp only [Option.bind_some]
      rw [spec_BehindOf_ev k (by omega)]
      have hp : Mp A B C D ∧ Mp a' b' c' d' := ⟨hP, hm⟩
      simp only [if_pos hp, Option.bind_some]
      rcases bh_or A B C D a' b' c' d' with ⟨A', B', C', D', e, hP'⟩ | e
      · rw [e]
        simp only [if_true]
        exact ih k (i + 1) _ _ _ _ (by omega) (by omega) (by omega) hP'
      · rw [e]
        exact ⟨_, _, _, _, _, rfl, fun x => by simp at x⟩
  unfold spec_MapOf.f
  rw [spec_DanceOk_ev k s (by omega) hn]
  simp only [Option.bind_some, decide_eq_true_eq]
  split
  · exact l s.size k 0 1 0 0 1 (by omega) (by omega) (by omega) (by decide)
  · exact ⟨_, _, _, _, _, rfl, fun x => by simp at x⟩
theorem rdOf_sz (L : List ByteArray) (h : ∀ x ∈ L, x.size ≤ 50) (r : Int) : (rdOf ByteArray.empty L r).size ≤ 50 := by
  unfold rdOf
  by_cases hr : r.toNat < L.length
  · have : L.getD r.toNat ByteArray.empty = L[r.toNat] := by simp [hr]
    rw [this]
    exact h _ (List.getElem_mem hr)
  · have : L.getD r.toNat ByteArray.empty = ByteArray.empty := by simp [Nat.le_of_not_lt hr]
    rw [this]
    decide
theorem dance_ev (k : Nat) (l : List Int) (hl : Bs l) (p a n : Int) (hk : a.toNat + 4 < k) (hp : 0 ≤ p ∧ p ≤ 900000) (ha : 0 ≤ a ∧ a ≤ 1000) (hn : n ≤ 10000000) :
    ∃ s p', spec_l20Dance.f k l p a n = some (s, p') ∧ p ≤ p' ∧ p' ≤ p + a + 5 ∧ s.size ≤ 50 * a.toNat + 50 := by
  have j : ∀ (d : Nat) (k : Nat) (s : ByteArray) (p : Int), d + 2 < k → 0 ≤ p → p + d ≤ 901010 → s.size + 50 * d ≤ 100000 → ∃ t p', spec_l20Dance.l0 k n s (d : Int) l p = some (t, p') ∧ p ≤ p' ∧ p' ≤ p + d + 2 ∧ t.size ≤ s.size + 50 * d + 50 := by
    intro d
    induction d with
    | zero =>
      intro k s p hk h0 h1 hs
      obtain ⟨k, rfl⟩ : ∃ m, k = m + 1 := ⟨k - 1, by omega⟩
      simp only [spec_l20Dance.l0]
      rw [if_neg (by omega)]
      obtain ⟨b, p', e, h2, h3⟩ := odd_ev k (by omega) l hl p n (by omega) hn
      rw [e]
      simp only [Option.bind_some]
      by_cases hb : b = true
      · rw [if_pos hb]
        obtain ⟨r, e2, h4, h5, _⟩ := pick_ev k (by omega) l hl p' 3 (by omega) (by omega)
        rw [e2]
        simp only [Option.bind_some]
        have h6 := h5 (by omega)
        rw [if_pos h4, if_pos (by simp only [List.length_cons, List.length_nil]; omega)]
        split
        · exact ⟨_, _, rfl, by omega, by omega, by rw [ByteArray.size_append]; exact Nat.le_trans (Nat.add_le_add_left (rdOf_sz _ (by decide) r) _) (by omega)⟩
        · rename_i hc
          exact absurd (Nat.le_trans (Nat.add_le_add_left (rdOf_sz _ (by decide) r) _) (by omega)) hc
      · rw [if_neg hb]
        exact ⟨_, _, rfl, by omega, by omega, by omega⟩
    | succ d ih =>
      intro k s p hk h0 h1 hs
      obtain ⟨k, rfl⟩ : ∃ m, k = m + 1 := ⟨k - 1, by omega⟩
      simp only [spec_l20Dance.l0]
      rw [if_pos (by omega)]
      simp only [Option.bind_some]
      obtain ⟨r, e2, h4, h5, _⟩ := pick_ev k (by omega) l hl p 6 (by omega) (by omega)
      rw [e2]
      simp only [Option.bind_some]
      have h6 := h5 (by omega)
      rw [if_pos h4, if_pos (by simp only [List.length_cons, List.length_nil]; omega), if_pos (Nat.le_trans (Nat.add_le_add_left (rdOf_sz _ (by decide) r) _) (by omega)), w64 (by omega)]
      have h7 := rdOf_sz [(⟨#[84]⟩ : ByteArray), (⟨#[84]⟩ : ByteArray), (⟨#[82]⟩ : ByteArray), (⟨#[116]⟩ : ByteArray), (⟨#[82]⟩ : ByteArray), (⟨#[84]⟩ : ByteArray)] (by decide) r
      have e3 : ((d + 1 : Nat) : Int) - 1 = (d : Int) := by omega
      rw [e3]
      obtain ⟨t, p', e4, h8, h9, h10⟩ := ih k (s ++ rdOf ByteArray.empty [(⟨#[84]⟩ : ByteArray), (⟨#[84]⟩ : ByteArray), (⟨#[82]⟩ : ByteArray), (⟨#[116]⟩ : ByteArray), (⟨#[82]⟩ : ByteArray), (⟨#[84]⟩ : ByteArray)] r) (p + 1) (by omega) (by omega) (by omega) (by rw [ByteArray.size_append]; omega)
      rw [ByteArray.size_append] at h10
      exact ⟨t, p', e4, by omega, by omega, by omega⟩
  unfold spec_l20Dance.f
  rw [w64 (by omega)]
  obtain ⟨r, e1, h1, h2, _⟩ := pick_ev k (by omega) l hl p (a + 1) (by omega) (by omega)
  rw [e1]
  simp only [Option.bind_some]
  have h3 := h2 (by omega)
  obtain ⟨d, rfl⟩ : ∃ d : Nat, r = d := ⟨r.toNat, by omega⟩
  obtain ⟨t, p', e4, h8, h9, h10⟩ := j d k (⟨#[]⟩ : ByteArray) (p + 1) (by omega) (by omega) (by omega) (by show 0 + 50 * d ≤ 100000; omega)
  have e0 : (⟨#[]⟩ : ByteArray).size = 0 := rfl
  rw [e0] at h10
  exact ⟨t, p', e4, by omega, by omega, by omega⟩
theorem map_ev (k : Nat) (hk : 1000004 ≤ k) (l : List Int) (hl : Bs l) (p n : Int) (hp : 0 ≤ p ∧ p ≤ 800000) (hn : n ≤ 10000000) :
    ∃ a b c d p', spec_l20Map.f k l p n = some (a, b, c, d, p') ∧ p ≤ p' ∧ p' ≤ p + 30 := by
  have j : ∀ (k : Nat) (p a b c d : Int), 2 ≤ k → 0 ≤ p → p ≤ 900010 → ∃ a' b' c' d' p', spec_l20Map.j0 k n l p a b c d = some (a', b', c', d', p') ∧ p ≤ p' ∧ p' ≤ p + 2 := by
    intro k p a b c d hk h0 h1
    obtain ⟨k, rfl⟩ : ∃ m, k = m + 1 := ⟨k - 1, by omega⟩
    simp only [spec_l20Map.j0]
    obtain ⟨b, p', e, h2, h3⟩ := odd_ev k (by omega) l hl p n (by omega) hn
    rw [e]
    simp only [Option.bind_some]
    by_cases hb : b = true
    · rw [if_pos hb]
      obtain ⟨r, e2, h4, h5, _⟩ := pick_ev k (by omega) l hl p' 4 (by omega) (by omega)
      rw [e2]
      simp only [Option.bind_some]
      have h6 := h5 (by omega)
      rw [if_pos h4, if_pos (by simp only [List.length_cons, List.length_nil]; omega)]
      exact ⟨_, _, _, _, _, rfl, by omega, by omega⟩
    · rw [if_neg hb]
      exact ⟨_, _, _, _, _, rfl, by omega, by omega⟩
  unfold spec_l20Map.f
  obtain ⟨s, p1, e1, h1, h2, h3⟩ := dance_ev k l hl p 12 0 (by omega) (by omega) (by omega) (by omega)
  rw [e1]
  simp only [Option.bind_some]
  obtain ⟨a, b, c, d, ok, e2, _⟩ := spec_MapOf_some k s (by omega) (by omega)
  rw [e2]
  simp only [Option.bind_some]
  split
  · obtain ⟨a', b', c', d', p', e, q1, q2⟩ := j k p1 a b c d (by omega) (by omega) (by omega)
    exact ⟨_, _, _, _, _, e, by omega, by omega⟩
  · obtain ⟨a', b', c', d', p', e, q1, q2⟩ := j k p1 1 0 0 1 (by omega) (by omega) (by omega)
    exact ⟨_, _, _, _, _, e, by omega, by omega⟩
theorem impl_isSmall_ev (k : Nat) (hk : 1000002 ≤ k) (u d n : Int) (hn : 0 ≤ n ∧ n ≤ 1000000) : impl_isSmall.f k u d n = some (decide (Fr u d ∧ -n ≤ u ∧ u ≤ n ∧ d ≤ n)) := by
  unfold impl_isSmall.f
  rw [impl_isFraction_ev k hk, w64 (by omega)]
  simp only [Option.bind_some, decide_eq_true_eq]
  by_cases h : Fr u d
  · rw [if_pos h]
    by_cases h1 : u ≥ -n
    · rw [if_pos h1]
      by_cases h2 : u ≤ n
      · rw [if_pos h2]; exact sd ⟨fun x => ⟨h, h1, h2, x⟩, fun x => x.2.2.2⟩
      · rw [if_neg h2]; exact sf (fun x => h2 x.2.2.1)
    · rw [if_neg h1]; exact sf (fun x => h1 x.2.1)
  · rw [if_neg h]; exact sf (fun x => h x.1)
def ce (u d : Int) : Int := -((-u) / d)
theorem ce_spec {u d : Int} (hd : 0 < d) : 0 ≤ ce u d * d - u ∧ ce u d * d - u < d := by
  have h1 := Int.emod_nonneg (-u) (show d ≠ 0 by omega)
  have h2 := Int.emod_lt_of_pos (-u) hd
  have h3 := Int.mul_ediv_add_emod (-u) d
  unfold ce
  rw [Int.neg_mul, Int.mul_comm]
  omega
theorem ce_unique {u d c : Int} (hd : 0 < d) (h0 : 0 ≤ c * d - u) (h1 : c * d - u < d) : c = ce u d := by
  have h2 := ce_spec (u := u) hd
  rcases ltge c (ce u d) with h | h
  · have : (c + 1) * d ≤ ce u d * d := Int.mul_le_mul_of_nonneg_right (by omega) (by omega)
    rw [Int.add_mul, Int.one_mul] at this
    omega
  · by_cases e : c = ce u d
    · exact e
    · have : (ce u d + 1) * d ≤ c * d := Int.mul_le_mul_of_nonneg_right (by omega) (by omega)
      rw [Int.add_mul, Int.one_mul] at this
      omega
theorem tdiv_facts (u d : Int) (hd : 0 < d) : (0 ≤ u → 0 ≤ u - Int.tdiv u d * d ∧ u - Int.tdiv u d * d < d) ∧ (u < 0 → 0 ≤ Int.tdiv u d * d - u ∧ Int.tdiv u d * d - u < d) := by
  have h := Int.mul_tdiv_add_tmod u d
  rw [Int.mul_comm] at h
  constructor
  · intro hu
    have h1 := Int.tmod_nonneg d hu
    have h2 := Int.tmod_lt_of_pos u hd
    omega
  · intro hu
    have h1 := Int.tmod_nonneg d (show 0 ≤ -u by omega)
    have h2 := Int.tmod_lt_of_pos (-u) hd
    rw [Int.neg_tmod] at h1 h2
    omega
theorem ce_bd {u d n : Int} (hd : 0 < d) (h : -n ≤ u ∧ u ≤ n) (hn : 0 ≤ n) : -n ≤ ce u d ∧ ce u d ≤ n := by
  have h2 := ce_spec (u := u) hd
  constructor
  · rcases ltge (ce u d) (-n) with h' | h'
    · exfalso
      have t1 : ce u d * d ≤ (-n - 1) * d := Int.mul_le_mul_of_nonneg_right (by omega) (by omega)
      have t2 : (-n - 1) * d ≤ (-n - 1) * 1 := Int.mul_le_mul_of_nonpos_left (by omega) (by omega)
      omega
    · exact h'
  · rcases ltge n (ce u d) with h' | h'
    · exfalso
      have t1 : (n + 1) * d ≤ ce u d * d := Int.mul_le_mul_of_nonneg_right (by omega) (by omega)
      rw [Int.add_mul, Int.one_mul] at t1
      have t2 : n * 1 ≤ n * d := Int.mul_le_mul_of_nonneg_left (by omega) hn
      omega
    · exact h'
theorem impl_ceiling_ev (u d : Int) (hd : 0 < d) (hb : d ≤ 1000) (hu : -1000 ≤ u ∧ u ≤ 1000) : impl_ceiling.f u d = some (ce u d) := by
  unfold impl_ceiling.f
  have b := tdiv_le u d
  have f := tdiv_facts u d hd
  have w1 : wrap64 (Int.tdiv u d) = Int.tdiv u d := w64 (by omega)
  have pm := mulb (a := Int.tdiv u d) (b := d) (by unfold Pt; omega) (by unfold Pt; omega)
  have w2 : wrap64 (Int.tdiv u d * d) = Int.tdiv u d * d := w64 (by omega)
  rw [if_neg (by omega), w1, w2]
  by_cases h : Int.tdiv u d * d < u
  · rw [if_pos h, w64 (by omega)]
    congr 1
    refine ce_unique hd ?_ ?_ <;> rw [Int.add_mul, Int.one_mul]
    · have h' : 0 ≤ u := by
        rcases ltge u 0 with x | x
        · have := f.2 x; omega
        · exact x
      have := f.1 h'
      omega
    · omega
  · rw [if_neg h]
    congr 1
    refine ce_unique hd (by omega) ?_
    rcases ltge u 0 with x | x
    · have := f.2 x; omega
    · have := f.1 x; omega
theorem spec_l4Over_ev (u d : Int) (hd : 0 < d) (hb : d ≤ 1000) (hu : -1000 ≤ u ∧ u ≤ 1000) : spec_l4Over.f u d = some (ce u d) := by
  unfold spec_l4Over.f spec_l3Under.f
  have b := tdiv_le (-u) d
  have f := tdiv_facts (-u) d hd
  have w0 : wrap64 (-u) = -u := w64 (by omega)
  rw [w0]
  have w1 : wrap64 (Int.tdiv (-u) d) = Int.tdiv (-u) d := w64 (by omega)
  have pm := mulb (a := Int.tdiv (-u) d) (b := d) (by unfold Pt; omega) (by unfold Pt; omega)
  have w2 : wrap64 (Int.tdiv (-u) d * d) = Int.tdiv (-u) d * d := w64 (by omega)
  rw [if_neg (by omega), w1, w2]
  by_cases h : Int.tdiv (-u) d * d > -u
  · rw [if_pos h, w64 (by omega)]
    simp only [Option.bind_some]
    rw [w64 (by omega)]
    congr 1
    refine ce_unique hd ?_ ?_ <;> rw [Int.neg_mul, Int.sub_mul, Int.one_mul]
    · have h' : -u < 0 := by
        rcases ltge (-u) 0 with x | x
        · exact x
        · have := f.1 x; omega
      have := f.2 h'
      omega
    · omega
  · rw [if_neg h]
    simp only [Option.bind_some]
    rw [w64 (by omega)]
    congr 1
    refine ce_unique hd ?_ ?_ <;> rw [Int.neg_mul]
    · omega
    · rcases ltge (-u) 0 with x | x
      · have := f.2 x; omega
      · have := f.1 x; omega
def teL : Nat → Int → Int → List Int
  | 0, _, _ => []
  | n + 1, u, d => if ce u d * d - u = 0 then [ce u d] else ce u d :: teL n d (ce u d * d - u)
theorem impl_termsOf_l0 (n : Nat) : ∀ (k : Nat) (l : List Int) (u d : Int), n < k → 0 < d → d ≤ n → d ≤ 60 → -60 ≤ u → u ≤ 60 → l.length + n ≤ 1000 → impl_termsOf.l0 k l u d = some (l ++ teL n u d) := by
  induction n with
  | zero => intro k l u d hk h0 h1; omega
  | succ n ih =>
    intro k l u d hk h0 h1 h2 h3 h4 h5
    obtain ⟨k, rfl⟩ : ∃ m, k = m + 1 := ⟨k - 1, by omega⟩
    simp only [impl_termsOf.l0, teL]
    have hc := ce_spec (u := u) h0
    have hb := ce_bd (n := 60) h0 ⟨h3, h4⟩ (by omega)
    have pm := mulb (a := ce u d) (b := d) (by unfold Pt; omega) (by unfold Pt; omega)
    rw [impl_ceiling_ev u d h0 (by omega) (by omega)]
    simp only [Option.bind_some]
    rw [if_pos (by omega), w64 (by omega : -9223372036854775808 ≤ ce u d * d ∧ _), w64 (by omega)]
    by_cases hz : ce u d * d - u = 0
    · rw [if_pos hz, if_pos hz]
    · rw [if_neg hz, if_neg hz, ih k _ _ _ (by omega) (by omega) (by omega) (by omega) (by omega) (by omega) (by simp; omega)]
      simp
theorem impl_termsOf_ev (k : Nat) (hk : 70 ≤ k) (u d : Int) (h0 : 0 < d) (h2 : d ≤ 60) (h3 : -60 ≤ u ∧ u ≤ 60) : impl_termsOf.f k u d = some (teL 60 u d) := by
  unfold impl_termsOf.f
  have := impl_termsOf_l0 60 k [] u d (by omega) h0 (by omega) h2 h3.1 h3.2 (by simp)
  simpa using this
theorem spec_l4Terms_l0 (n : Nat) : ∀ (k : Nat) (l : List Int) (u d : Int), n + 1 < k → 0 < d → d ≤ n → d ≤ 60 → -60 ≤ u → u ≤ 60 → l.length + n ≤ 1000 → spec_l4Terms.l0 k l u d = some (l ++ teL n u d) := by
  induction n with
  | zero => intro k l u d hk h0 h1; omega
  | succ n ih =>
    intro k l u d hk h0 h1 h2 h3 h4 h5
    obtain ⟨k, rfl⟩ : ∃ m, k = m + 1 := ⟨k - 1, by omega⟩
    simp only [spec_l4Terms.l0, teL]
    have hc := ce_spec (u := u) h0
    have hb := ce_bd (n := 60) h0 ⟨h3, h4⟩ (by omega)
    have pm := mulb (a := ce u d) (b := d) (by unfold Pt; omega) (by unfold Pt; omega)
    rw [if_pos h0, spec_l4Over_ev u d h0 (by omega) (by omega)]
    simp only [Option.bind_some]
    rw [if_pos (by omega), w64 (by omega : -9223372036854775808 ≤ ce u d * d ∧ _), w64 (by omega)]
    by_cases hz : ce u d * d - u = 0
    · rw [if_pos hz, hz]
      obtain ⟨k, rfl⟩ : ∃ m, k = m + 1 := ⟨k - 1, by omega⟩
      simp only [spec_l4Terms.l0]
      rw [if_neg (by omega)]
    · rw [if_neg hz, ih k _ _ _ (by omega) (by omega) (by omega) (by omega) (by omega) (by omega) (by simp; omega)]
      simp
theorem teL_len (n : Nat) : ∀ (u d : Int), 0 < d → d ≤ n → ((teL n u d).length : Int) ≤ d ∧ 1 ≤ (teL n u d).length := by
  induction n with
  | zero => intro u d h0 h1; omega
  | succ n ih =>
    intro u d h0 h1
    have hc := ce_spec (u := u) h0
    simp only [teL]
    by_cases hz : ce u d * d - u = 0
    · rw [if_pos hz]; simp; omega
    · rw [if_neg hz]
      have := ih d (ce u d * d - u) (by omega) (by omega)
      simp
      omega
theorem dok_app (l m : List UInt8) : dok (l ++ m) = (dok l && dok m) := by unfold dok; rw [List.all_append]
theorem bt_ofL (l : List UInt8) (i : Nat) (h : i < l.length) : bt (ofL l) (i : Int) = ((l[i]).toNat : Int) := by
  have e := bt_get (ofL l) (i : Int) (by omega) (by rw [ofL_size]; omega)
  rw [e]
  simp [ofL]
theorem impl_areMoves_ev (s : ByteArray) (hn : s.size ≤ 1000000000) : impl_areMoves.f s = some (dok s.data.toList) := by
  unfold impl_areMoves.f; rw [if_pos (by omega)]; rfl
theorem impl_isDance_ev (s : ByteArray) : impl_isDance.f s = some (decide (Dn s)) := by
  unfold impl_isDance.f
  by_cases h : (s.size : Int) ≤ 40
  · rw [if_pos h, impl_areMoves_ev s (by omega)]
    show some (dok s.data.toList) = _
    congr 1
    by_cases hd : dok s.data.toList = true
    · rw [hd, decide_eq_true (show Dn s from ⟨hd, by omega⟩)]
    · rw [decide_eq_false (show ¬ Dn s from fun x => hd x.1)]; simpa using hd
  · rw [if_neg h, decide_eq_false (fun x => h (by have := x.2; omega))]
def mvM (c : UInt8) : Int × Int × Int × Int := if c = 84 then (1, 1, 0, 1) else if c = 116 then (1, -1, 0, 1) else (0, -1, 1, 0)
theorem mvM_mp (c : UInt8) : Mp (mvM c).1 (mvM c).2.1 (mvM c).2.2.1 (mvM c).2.2.2 := by
  unfold mvM
  split
  · show Mp 1 1 0 1; decide
  · split
    · show Mp 1 (-1) 0 1; decide
    · show Mp 0 (-1) 1 0; decide
def mapL : (Int × Int × Int × Int) → List UInt8 → Int × Int × Int × Int × Bool
  | m, [] => (m.1, m.2.1, m.2.2.1, m.2.2.2, true)
  | m, c :: l => if (bh m.1 m.2.1 m.2.2.1 m.2.2.2 (mvM c).1 (mvM c).2.1 (mvM c).2.2.1 (mvM c).2.2.2).2.2.2.2 = true then mapL ((bh m.1 m.2.1 m.2.2.1 m.2.2.2 (mvM c).1 (mvM c).2.1 (mvM c).2.2.1 (mvM c).2.2.2).1, (bh m.1 m.2.1 m.2.2.1 m.2.2.2 (mvM c).1 (mvM c).2.1 (mvM c).2.2.1 (mvM c).2.2.2).2.1, (bh m.1 m.2.1 m.2.2.1 m.2.2.2 (mvM c).1 (mvM c).2.1 (mvM c).2.2.1 (mvM c).2.2.2).2.2.1, (bh m.1 m.2.1 m.2.2.1 m.2.2.2 (mvM c).1 (mvM c).2.1 (mvM c).2.2.1 (mvM c).2.2.2).2.2.2.1) l else (0, 0, 0, 0, false)
theorem bh_mp {a b c d a' b' c' d' : Int} (h : (bh a b c d a' b' c' d').2.2.2.2 = true) : Mp (bh a b c d a' b' c' d').1 (bh a b c d a' b' c' d').2.1 (bh a b c d a' b' c' d').2.2.1 (bh a b c d a' b' c' d').2.2.2.1 := by
  rcases bh_or a b c d a' b' c' d' with ⟨A, B, C, D, e, hm⟩ | e
  · rw [e]; exact hm
  · rw [e] at h; cases h
theorem spec_l5Move_ev (c : UInt8) : spec_l5Move.f (c.toNat : Int) = some (mvM c) := by
  unfold spec_l5Move.f mvM
  have q1' : ((c.toNat : Int) = 84) ↔ c = 84 := u8_eq c 84 (by omega)
  have q2' : ((c.toNat : Int) = 116) ↔ c = 116 := u8_eq c 116 (by omega)
  by_cases c1 : c = 84
  · rw [if_pos (q1'.2 c1), if_pos c1]
  · rw [if_neg (fun x => c1 (q1'.1 x)), if_neg c1]
    by_cases c2 : c = 116
    · rw [if_pos (q2'.2 c2), if_pos c2]
    · rw [if_neg (fun x => c2 (q2'.1 x)), if_neg c2]
theorem impl_mapOf_l0 (s : ByteArray) (h40 : s.size ≤ 2000) (d : Nat) : ∀ (k : Nat) (i : Nat) (m : Int × Int × Int × Int), d + 2 ≤ k → i + d = s.size → Mp m.1 m.2.1 m.2.2.1 m.2.2.2 → impl_mapOf.l0 k s (s.size : Int) (i : Int) m.1 m.2.1 m.2.2.1 m.2.2.2 = some (mapL m (s.data.toList.drop i)) := by
  have hsz : s.data.toList.length = s.size := by simp
  induction d with
  | zero =>
    intro k i m hk hd hm
    obtain ⟨k, rfl⟩ : ∃ m, k = m + 1 := ⟨k - 1, by omega⟩
    simp only [impl_mapOf.l0]
    rw [if_neg (by omega), List.drop_eq_nil_of_le (by omega)]; rfl
  | succ d ih =>
    intro k i m hk hd hm
    obtain ⟨k, rfl⟩ : ∃ m, k = m + 1 := ⟨k - 1, by omega⟩
    have hi : i < s.data.toList.length := by omega
    have hb' : bt s (i : Int) = (s.data.toList[i].toNat : Int) := bt_get s (i : Int) (by omega) (by omega)
    have e1 : ((i : Int) + 1) = ((i + 1 : Nat) : Int) := by omega
    simp only [impl_mapOf.l0]
    rw [if_pos (by omega), if_pos (by omega), if_pos (by omega), w64 (by omega), hb', e1, List.drop_eq_getElem_cons hi]
    generalize s.data.toList[i] = c
    have hp := mvM_mp c
    have st : ∀ A B C D : Int, mvM c = (A, B, C, D) → ((impl_behind.f k m.1 m.2.1 m.2.2.1 m.2.2.2 A B C D).bind fun x => (if x.2.2.2.2 = true then (impl_mapOf.l0 k s (s.size : Int) ((i + 1 : Nat) : Int) x.1 x.2.1 x.2.2.1 x.2.2.2.1) else (some (0, 0, 0, 0, false)))) = some (mapL m (c :: List.drop (i + 1) s.data.toList)) := by
      intro A B C D e
      simp only [mapL]
      rw [e] at hp ⊢
      rw [impl_behind_ev k (by omega) _ _ _ _ _ _ _ _ hm hp]
      simp only [Option.bind_some]
      split
      · rename_i h
        exact ih k (i + 1) (_, _, _, _) (by omega) (by omega) (bh_mp h)
      · rfl
    have q1' : ((c.toNat : Int) = 84) ↔ c = 84 := u8_eq c 84 (by omega)
    have q2' : ((c.toNat : Int) = 116) ↔ c = 116 := u8_eq c 116 (by omega)
    by_cases c1 : c = 84
    · rw [if_pos (q1'.2 c1)]; exact st _ _ _ _ (by unfold mvM; rw [if_pos c1])
    · rw [if_neg (fun x => c1 (q1'.1 x))]
      by_cases c2 : c = 116
      · rw [if_pos (q2'.2 c2)]; exact st _ _ _ _ (by unfold mvM; rw [if_neg c1, if_pos c2])
      · rw [if_neg (fun x => c2 (q2'.1 x))]; exact st _ _ _ _ (by unfold mvM; rw [if_neg c1, if_neg c2])
theorem impl_mapOf_ev (k : Nat) (s : ByteArray) (h40 : s.size ≤ 2000) (hk : 2100 ≤ k) : impl_mapOf.f k s = some (mapL (1, 0, 0, 1) s.data.toList) :=
  impl_mapOf_l0 s h40 s.size k 0 (1, 0, 0, 1) (by omega) (by omega) (by decide)
theorem impl_MapOf_ev (k : Nat) (s : ByteArray) (hk : 100 ≤ k) : impl_MapOf.f k s = some (if Dn s then mapL (1, 0, 0, 1) s.data.toList else (0, 0, 0, 0, false)) := by
  unfold impl_MapOf.f impl_mapOf.f
  rw [impl_isDance_ev]
  simp only [Option.bind_some, decide_eq_true_eq]
  by_cases h : Dn s
  · have := h.2
    have e := impl_mapOf_l0 s (by omega) s.size k 0 (1, 0, 0, 1) (by omega) (by omega) (by decide)
    have e' : impl_mapOf.l0 k s (s.size : Int) 0 1 0 0 1 = some (mapL (1, 0, 0, 1) s.data.toList) := e
    rw [if_pos h, if_pos h, e']; rfl
  · rw [if_neg h, if_neg h]
def mm (x y : Int × Int × Int × Int) : Int × Int × Int × Int := (x.1 * y.1 + x.2.1 * y.2.2.1, x.1 * y.2.1 + x.2.1 * y.2.2.2, x.2.2.1 * y.1 + x.2.2.2 * y.2.2.1, x.2.2.1 * y.2.1 + x.2.2.2 * y.2.2.2)
def pm : (Int × Int × Int × Int) → List UInt8 → Int × Int × Int × Int
  | m, [] => m
  | m, c :: l => pm (mm (mvM c) m) l
theorem mapL_mp (l : List UInt8) : ∀ {m r : Int × Int × Int × Int}, Mp m.1 m.2.1 m.2.2.1 m.2.2.2 → mapL m l = (r.1, r.2.1, r.2.2.1, r.2.2.2, true) → Mp r.1 r.2.1 r.2.2.1 r.2.2.2 := by
  induction l with
  | nil =>
    intro m r hm h
    simp only [mapL, Prod.mk.injEq] at h
    obtain ⟨h1, h2, h3, h4, _⟩ := h
    rw [← h1, ← h2, ← h3, ← h4]; exact hm
  | cons c l ih =>
    intro m r hm h
    simp only [mapL] at h
    split at h
    · rename_i hok
      exact ih (m := (_, _, _, _)) (bh_mp hok) h
    · simp at h
def twL (a : Int) : List UInt8 := List.replicate a.toNat 84 ++ List.replicate (-a).toNat 116
theorem twL_len (a n : Int) (h : -n ≤ a ∧ a ≤ n) : ((twL a).length : Int) ≤ n := by
  unfold twL; simp; omega
def dfA : Nat → List Int → List UInt8
  | 0, _ => []
  | n + 1, l => twL (rd l (n : Int)) ++ ((if 0 < n then [82] else []) ++ dfA n l)
theorem rep_snoc (n : Nat) (c : UInt8) (m : List UInt8) : m ++ [c] ++ List.replicate n c = m ++ List.replicate (n + 1) c := by
  rw [List.replicate_succ]; simp
theorem teL_bd (n : Nat) : ∀ (u d : Int), 0 < d → d ≤ n → n ≤ 60 → -60 ≤ u → u ≤ 60 → ∀ x ∈ teL n u d, -60 ≤ x ∧ x ≤ 60 := by
  induction n with
  | zero => intro u d h0 h1; omega
  | succ n ih =>
    intro u d h0 h1 h2 h3 h4 x hx
    have hc := ce_spec (u := u) h0
    have hb := ce_bd (n := 60) h0 ⟨h3, h4⟩ (by omega)
    simp only [teL] at hx
    split at hx
    · simp at hx; omega
    · rcases List.mem_cons.1 hx with h | h
      · rw [h]; exact hb
      · exact ih d (ce u d * d - u) (by omega) (by omega) (by omega) (by omega) (by omega) x h
theorem rd_bd (l : List Int) (n : Int) (h : ∀ x ∈ l, -n ≤ x ∧ x ≤ n) (i : Nat) (hi : i < l.length) : -n ≤ rd l (i : Int) ∧ rd l (i : Int) ≤ n := by
  rw [rd_eq l (i : Int) (by omega) (by omega)]
  exact h _ (List.getElem_mem _)
theorem spec_l4Twists_l1 (a : Int) (ha : -1000 ≤ a ∧ a ≤ 1000) (n : Nat) : ∀ (k : Nat) (l : List UInt8) (j : Int), n < k → 0 ≤ j → (-a - j).toNat = n → l.length + n ≤ 5000000 → spec_l4Twists.l1 k a (ofL l) j = some (ofL (l ++ List.replicate n 116)) := by
  induction n with
  | zero =>
    intro k l j hk h0 hn hl
    obtain ⟨k, rfl⟩ : ∃ m, k = m + 1 := ⟨k - 1, by omega⟩
    simp only [spec_l4Twists.l1]
    rw [w64 (by omega), if_neg (by omega)]
    simp
  | succ n ih =>
    intro k l j hk h0 hn hl
    obtain ⟨k, rfl⟩ : ∃ m, k = m + 1 := ⟨k - 1, by omega⟩
    simp only [spec_l4Twists.l1]
    have e : ofL l ++ (⟨#[116]⟩ : ByteArray) = ofL (l ++ [116]) := ofL_app l [116]
    rw [w64 (by omega), if_pos (by omega), if_pos (by rw [ofL_size]; omega), w64 (by omega), e, ih k _ (j + 1) (by omega) (by omega) (by omega) (by simp; omega), rep_snoc]
theorem spec_l4Twists_l0 (a : Int) (ha : -1000 ≤ a ∧ a ≤ 1000) (n : Nat) : ∀ (k : Nat) (l : List UInt8) (j : Int), n + 1002 < k → 0 ≤ j → (a - j).toNat = n → l.length + n ≤ 4000000 → spec_l4Twists.l0 k a (ofL l) j = some (ofL (l ++ (List.replicate n 84 ++ List.replicate (-a).toNat 116))) := by
  induction n with
  | zero =>
    intro k l j hk h0 hn hl
    obtain ⟨k, rfl⟩ : ∃ m, k = m + 1 := ⟨k - 1, by omega⟩
    simp only [spec_l4Twists.l0]
    rw [if_neg (by omega), spec_l4Twists_l1 a ha (-a).toNat k l 0 (by omega) (by omega) (by omega) (by omega)]
    simp
  | succ n ih =>
    intro k l j hk h0 hn hl
    obtain ⟨k, rfl⟩ : ∃ m, k = m + 1 := ⟨k - 1, by omega⟩
    simp only [spec_l4Twists.l0]
    have e : ofL l ++ (⟨#[84]⟩ : ByteArray) = ofL (l ++ [84]) := ofL_app l [84]
    rw [if_pos (by omega), if_pos (by rw [ofL_size]; omega), w64 (by omega), e, ih k _ (j + 1) (by omega) (by omega) (by omega) (by simp; omega), ← List.append_assoc, ← List.append_assoc, rep_snoc]
theorem spec_l4Twists_ev (k : Nat) (hk : 2100 ≤ k) (a : Int) (ha : -1000 ≤ a ∧ a ≤ 1000) : spec_l4Twists.f k a = some (ofL (twL a)) := by
  unfold spec_l4Twists.f
  have := spec_l4Twists_l0 a ha a.toNat k [] 0 (by omega) (by omega) (by omega) (by simp; omega)
  exact this
theorem dfA_len (n : Nat) (l : List Int) (hl : ∀ x ∈ l, -60 ≤ x ∧ x ≤ 60) (hn : n ≤ l.length) : (dfA n l).length ≤ 61 * n := by
  induction n with
  | zero => simp [dfA]
  | succ n ih =>
    have h1 := twL_len (rd l (n : Int)) 60 (rd_bd l 60 hl n (by omega))
    have h2 := ih (by omega)
    have h3 : (if 0 < n then ([82] : List UInt8) else []).length ≤ 1 := by split <;> simp
    simp only [dfA, List.length_append]
    omega
theorem spec_l4Dance_l0 (l : List Int) (hl : ∀ x ∈ l, -60 ≤ x ∧ x ≤ 60) (n : Nat) : ∀ (k : Nat) (m : List UInt8), n + 2100 ≤ k → n ≤ l.length → n ≤ 1000 → m.length + 61 * n ≤ 1000000 → spec_l4Dance.l0 k l (ofL m) ((n : Int) - 1) = some (ofL (m ++ dfA n l)) := by
  induction n with
  | zero =>
    intro k m hk hn hn2 hm
    obtain ⟨k, rfl⟩ : ∃ j, k = j + 1 := ⟨k - 1, by omega⟩
    simp only [spec_l4Dance.l0]
    rw [if_neg (by omega)]
    simp [dfA]
  | succ n ih =>
    intro k m hk hn hn2 hm
    obtain ⟨k, rfl⟩ : ∃ j, k = j + 1 := ⟨k - 1, by omega⟩
    simp only [spec_l4Dance.l0]
    have e : ((n + 1 : Nat) : Int) - 1 = (n : Int) := by omega
    have hb := rd_bd l 60 hl n (by omega)
    have h1 := twL_len (rd l (n : Int)) 60 hb
    rw [e, if_pos (by omega), if_pos (by omega), if_pos (by omega), spec_l4Twists_ev k (by omega) _ (by omega), w64 (by omega)]
    rw [Option.bind_some, ofL_app, if_pos (by rw [ofL_size, ofL_size]; omega)]
    have eR : (⟨#[82]⟩ : ByteArray) = ofL [82] := rfl
    by_cases h0 : (n : Int) > 0
    · rw [if_pos h0, eR, ofL_app, if_pos (by rw [ofL_size, List.length_append]; omega), ih k _ (by omega) (by omega) (by omega) (by simp; omega)]
      simp only [dfA]
      rw [if_pos (by omega)]
      simp
    · rw [if_neg h0, ih k _ (by omega) (by omega) (by omega) (by simp; omega)]
      simp only [dfA]
      rw [if_neg (by omega)]
      simp
def dfL (u d : Int) : List UInt8 := if d = 0 then [82] else dfA (teL 60 u d).length (teL 60 u d)
theorem spec_l4Dance_ev (k : Nat) (hk : 3000 ≤ k) (u d : Int) (h0 : 0 ≤ d) (h2 : d ≤ 60) (h3 : -60 ≤ u ∧ u ≤ 60) : spec_l4Dance.f k u d = some (ofL (dfL u d)) := by
  unfold spec_l4Dance.f dfL
  by_cases hd : d = 0
  · rw [if_pos hd, if_pos hd]; rfl
  · rw [if_neg hd, if_neg hd]
    unfold spec_l4Terms.f
    rw [spec_l4Terms_l0 60 k [] u d (by omega) (by omega) (by omega) h2 h3.1 h3.2 (by simp), Option.bind_some]
    have hlen := (teL_len 60 u d (by omega) (by omega)).1
    have hbd := teL_bd 60 u d (by omega) (by omega) (by omega) h3.1 h3.2
    rw [List.nil_append, w64 (by omega)]
    exact spec_l4Dance_l0 (teL 60 u d) hbd (teL 60 u d).length k [] (by omega) (by omega) (by omega) (by simp; omega)
theorem rev_l0 (l : List ByteArray) (hn : l.length ≤ 1000000) (d : Nat) : ∀ (k i : Nat) (x : List ByteArray), l.length - 2 * i ≤ d → d < k → i ≤ l.length → x.length = l.length → (∀ m : Nat, m < l.length → x[m]? = if m < i ∨ l.length - i ≤ m then l[l.length - 1 - m]? else l[m]?) → slices_Reverse_string_string.l0 k x (i : Int) ((l.length : Int) - 1 - i) = some l.reverse := by
  have fin : ∀ (i : Nat) (x : List ByteArray), i ≤ l.length → l.length ≤ 2 * i + 1 → x.length = l.length → (∀ m : Nat, m < l.length → x[m]? = if m < i ∨ l.length - i ≤ m then l[l.length - 1 - m]? else l[m]?) → x = l.reverse := by
    intro i x hi h2 hx hm
    apply List.ext_getElem?
    intro m
    by_cases hml : m < l.length
    · rw [hm m hml, List.getElem?_reverse hml]
      split
      · rfl
      · have : l.length - 1 - m = m := by omega
        rw [this]
    · rw [List.getElem?_eq_none (by omega), List.getElem?_eq_none (by simp; omega)]
  induction d with
  | zero =>
    intro k i x hd hk hi hx hm
    obtain ⟨k, rfl⟩ : ∃ m, k = m + 1 := ⟨k - 1, by omega⟩
    simp only [slices_Reverse_string_string.l0]
    rw [if_neg (by omega), fin i x hi (by omega) hx hm]
  | succ d ih =>
    intro k i x hd hk hi hx hm
    obtain ⟨k, rfl⟩ : ∃ m, k = m + 1 := ⟨k - 1, by omega⟩
    simp only [slices_Reverse_string_string.l0]
    by_cases hlt : (i : Int) < (l.length : Int) - 1 - i
    · rw [if_pos hlt, if_pos (by omega), if_pos (by omega), if_pos (by omega), if_pos (by omega), w64 (by omega), w64 (by omega)]
      have e1 : (i : Int) + 1 = ((i + 1 : Nat) : Int) := by omega
      have e2 : (l.length : Int) - 1 - i - 1 = (l.length : Int) - 1 - ((i + 1 : Nat) : Int) := by omega
      have e3 : ((l.length : Int) - 1 - i).toNat = l.length - 1 - i := by omega
      rw [e1, e2, e3, Int.toNat_natCast]
      refine ih k (i + 1) _ (by omega) (by omega) (by omega) (by simp [hx]) ?_
      intro m hml
      have r1 : rdOf ByteArray.empty x ((l.length : Int) - 1 - i) = l[l.length - 1 - i]'(by omega) := by
        show x.getD (((l.length : Int) - 1 - i)).toNat _ = _
        rw [e3, List.getD_eq_getElem?_getD, hm _ (by omega), if_neg (by omega), List.getElem?_eq_getElem (by omega)]; rfl
      have r2 : rdOf ByteArray.empty x (i : Int) = l[i]'(by omega) := by
        show x.getD ((i : Int)).toNat _ = _
        rw [Int.toNat_natCast, List.getD_eq_getElem?_getD, hm _ (by omega), if_neg (by omega), List.getElem?_eq_getElem (by omega)]; rfl
      rw [r1, r2, List.getElem?_set, List.getElem?_set]
      by_cases c1 : l.length - 1 - i = m
      · rw [if_pos c1, if_pos (by simp; omega), if_pos (by omega)]
        have : l.length - 1 - m = i := by omega
        rw [this, List.getElem?_eq_getElem (by omega)]
      · rw [if_neg c1]
        by_cases c2 : i = m
        · rw [if_pos c2, if_pos (by omega), if_pos (by omega), ← c2, List.getElem?_eq_getElem (by omega)]
        · rw [if_neg c2, hm m hml]
          by_cases c3 : m < i ∨ l.length - i ≤ m
          · rw [if_pos c3, if_pos (by omega)]
          · rw [if_neg c3, if_neg (by omega)]
    · rw [if_neg hlt, fin i x hi (by omega) hx hm]
theorem rev_ev (k : Nat) (l : List ByteArray) (hn : l.length ≤ 1000000) (hk : l.length < k) : slices_Reverse_string_string.f k l = some l.reverse := by
  unfold slices_Reverse_string_string.f
  rw [w64 (by omega)]
  have := rev_l0 l hn l.length k 0 l (by omega) hk (by omega) rfl (fun m hm => by rw [if_neg (by omega)])
  have e : (l.length : Int) - 1 - ((0 : Nat) : Int) = (l.length : Int) - 1 := by omega
  rw [e] at this
  exact this
theorem twists_ev (a : Int) (h : -1000000 ≤ a ∧ a ≤ 1000000) : impl_twists.f a = some (ofL (twL a)) := by
  unfold impl_twists.f; rw [if_pos h]; rfl
theorem join_dfA (l : List Int) (n : Nat) : n ≤ l.length → Lib.join ((l.take n).map twL).reverse [82] = dfA n l := by
  induction n with
  | zero => intro _; rfl
  | succ n ih =>
    intro hn
    have hlt : n < l.length := by omega
    have hr : rd l (n : Int) = l[n] := by rw [rd_eq l (n : Int) (by omega) (by omega)]; rfl
    rw [List.take_succ_eq_append_getElem hlt, List.map_append, List.reverse_append]
    show Lib.join (twL l[n] :: ((l.take n).map twL).reverse) [82] = _
    rw [Lib.join_cons]
    simp only [dfA]
    rw [hr, ← ih (by omega)]
    congr 1
    by_cases h0 : 0 < n
    · rw [if_pos h0]
      cases hq : ((l.take n).map twL).reverse with
      | nil =>
        have hl : ((l.take n).map twL).reverse.length = n := by rw [List.length_reverse, List.length_map, List.length_take]; omega
        rw [hq] at hl
        simp only [List.length_nil] at hl
        omega
      | cons y r =>
        rw [Lib.join_cons]
        simp [Lib.joinTail]
    · have : n = 0 := by omega
      subst this
      rfl
theorem impl_danceFor_l0 (l : List Int) (hl : ∀ x ∈ l, -60 ≤ x ∧ x ≤ 60) (hlen : l.length ≤ 60) (d : Nat) : ∀ (k i : Nat), i + d = l.length → d + 200 ≤ k → impl_danceFor.l0 k ((l.take i).map fun a => ofL (twL a)) l (l.length : Int) (i : Int) = some (ofL (dfA l.length l)) := by
  induction d with
  | zero =>
    intro k i hi hk
    obtain ⟨k, rfl⟩ : ∃ m, k = m + 1 := ⟨k - 1, by omega⟩
    simp only [impl_danceFor.l0]
    rw [if_neg (by omega), rev_ev _ _ (by simp; omega) (by simp; omega), Option.bind_some]
    have e0 : (⟨#[82]⟩ : ByteArray) = ofL [82] := rfl
    have e : (((l.take i).map fun a => ofL (twL a)).reverse.map fun s : ByteArray => s.data.toList) = ((l.take l.length).map twL).reverse := by
      have : i = l.length := by omega
      rw [this, List.map_reverse, List.map_map]
      congr 1
    have hj := join_dfA l l.length (Nat.le_refl _)
    have hd := dfA_len l.length l hl (Nat.le_refl _)
    unfold strings_Join.f
    rw [e0, ofL_data, e, hj, if_pos (by constructor <;> first | (simp; omega) | omega)]
    rfl
  | succ d ih =>
    intro k i hi hk
    obtain ⟨k, rfl⟩ : ∃ m, k = m + 1 := ⟨k - 1, by omega⟩
    simp only [impl_danceFor.l0]
    have hlt : i < l.length := by omega
    have hb := rd_bd l 60 hl i hlt
    have hr : rd l (i : Int) = l[i] := by rw [rd_eq l (i : Int) (by omega) (by omega)]; rfl
    have e1 : (i : Int) + 1 = ((i + 1 : Nat) : Int) := by omega
    rw [if_pos (by omega), if_pos (by omega), if_pos (by omega), twists_ev _ (by omega), Option.bind_some, if_pos (by simp; omega), w64 (by omega), e1, hr]
    have e2 : ((l.take i).map fun a => ofL (twL a)) ++ [ofL (twL l[i])] = (l.take (i + 1)).map fun a => ofL (twL a) := by
      rw [List.take_succ_eq_append_getElem hlt, List.map_append]; rfl
    rw [e2]
    exact ih k (i + 1) (by omega) (by omega)
theorem impl_danceFor_ev (k : Nat) (hk : 1000 ≤ k) (u d : Int) (h0 : 0 ≤ d) (h2 : d ≤ 60) (h3 : -60 ≤ u ∧ u ≤ 60) : impl_danceFor.f k u d = some (ofL (dfL u d)) := by
  unfold impl_danceFor.f dfL
  by_cases hd : d = 0
  · rw [if_pos hd, if_pos hd]; rfl
  · rw [if_neg hd, if_neg hd, impl_termsOf_ev k (by omega) u d (by omega) h2 h3, Option.bind_some]
    have hlen := (teL_len 60 u d (by omega) (by omega)).1
    have hbd := teL_bd 60 u d (by omega) (by omega) (by omega) h3.1 h3.2
    exact impl_danceFor_l0 (teL 60 u d) hbd (by omega) (teL 60 u d).length k 0 (by omega) (by omega)
theorem impl_DanceFor_ev (k : Nat) (hk : 1000100 ≤ k) (u d : Int) : impl_DanceFor.f k u d = some (if Fr u d ∧ -12 ≤ u ∧ u ≤ 12 ∧ d ≤ 12 then (ofL (dfL u d), true) else (ofL [], false)) := by
  unfold impl_DanceFor.f
  rw [impl_isSmall_ev k (by omega) u d 12 (by omega)]
  have e0 : (⟨#[]⟩ : ByteArray) = ofL [] := rfl
  rw [e0, Option.bind_some]
  simp only [decide_eq_true_eq]
  by_cases h : Fr u d ∧ -12 ≤ u ∧ u ≤ 12 ∧ d ≤ 12
  · rw [if_pos h, if_pos h, impl_danceFor_ev k (by omega) u d h.1.2.2.1 (by omega) (by omega), Option.bind_some]
  · rw [if_neg h, if_neg h]
theorem mp_gcd1 {a b c d : Int} (h : Mp a b c d) : Int.gcd a c = 1 := by
  have hd := h.2.2.2.2.1
  have h1 : (Int.gcd a c : Int) ∣ 1 := by
    rw [← hd]
    exact Int.dvd_sub (Int.dvd_trans (gcd_dvd a c).1 (Int.dvd_mul_right a d)) (Int.dvd_trans (gcd_dvd a c).2 (Int.dvd_mul_left b c))
  have := Int.le_of_dvd (by omega) h1
  have hp : Int.gcd a c ≠ 0 := by
    intro h0
    rw [h0] at h1
    have := Int.zero_dvd.1 h1
    omega
  omega
def rsL (a c : Int) : List UInt8 := 82 :: dfL a c
def okN (a c : Int) : Bool := (mapL (1, 0, 0, 1) (rsL a c)).2.2.2.2 && (decide ((mapL (1, 0, 0, 1) (rsL a c)).1 = a) && (decide ((mapL (1, 0, 0, 1) (rsL a c)).2.2.1 = c) && (decide (-30 ≤ (mapL (1, 0, 0, 1) (rsL a c)).2.1 ∧ (mapL (1, 0, 0, 1) (rsL a c)).2.1 ≤ 30) && (decide (-30 ≤ (mapL (1, 0, 0, 1) (rsL a c)).2.2.2.1 ∧ (mapL (1, 0, 0, 1) (rsL a c)).2.2.2.1 ≤ 30) && (dok (rsL a c) && decide ((rsL a c).length ≤ 900))))))
set_option maxRecDepth 100000 in
theorem okN_all : ((List.range 25).all fun a => (List.range 12).all fun c => !decide (Int.gcd ((a : Int) - 12) ((c : Int) + 1) = 1) || okN ((a : Int) - 12) ((c : Int) + 1)) = true := by decide +kernel
theorem okN_of {a c : Int} (ha : -12 ≤ a ∧ a ≤ 12) (hc : 1 ≤ c ∧ c ≤ 12) (h : Int.gcd a c = 1) : okN a c = true := by
  have e := okN_all
  rw [List.all_eq_true] at e
  have e1 := e (a + 12).toNat (by rw [List.mem_range]; omega)
  rw [List.all_eq_true] at e1
  have e2 := e1 (c - 1).toNat (by rw [List.mem_range]; omega)
  have q1 : ((a + 12).toNat : Int) - 12 = a := by omega
  have q2 : ((c - 1).toNat : Int) + 1 = c := by omega
  rw [q1, q2, decide_eq_true h] at e2
  simpa using e2
def R12 (x : Int) : Prop := -12 ≤ x ∧ x ≤ 12
instance (x : Int) : Decidable (R12 x) := by unfold R12; exact inferInstance
def Nm (a b c d : Int) : Prop := Mp a b c d ∧ R12 a ∧ R12 b ∧ R12 c ∧ R12 d
instance (a b c d : Int) : Decidable (Nm a b c d) := by unfold Nm; exact inferInstance
def nrP (a c : Int) : Int × Int := ((mapL (1, 0, 0, 1) (rsL a c)).2.1, (mapL (1, 0, 0, 1) (rsL a c)).2.2.2.1)
def nrN (a b c d : Int) : Int := (nrP a c).2 * b - (nrP a c).1 * d
def nrL (a b c d : Int) : List UInt8 := twL (nrN a b c d) ++ rsL a c
theorem mul360 {x y : Int} (hx : -30 ≤ x ∧ x ≤ 30) (hy : -12 ≤ y ∧ y ≤ 12) : -360 ≤ x * y ∧ x * y ≤ 360 := by
  have h1 : x.natAbs ≤ 30 := by omega
  have h2 : y.natAbs ≤ 12 := by omega
  have := Nat.mul_le_mul h1 h2
  rw [← Int.natAbs_mul] at this
  omega
theorem nm_facts {a b c d : Int} (h : Nm a b c d) (hc : ¬ c = 0) :
    mapL (1, 0, 0, 1) (rsL a c) = (a, (nrP a c).1, c, (nrP a c).2, true) ∧ -30 ≤ (nrP a c).1 ∧ (nrP a c).1 ≤ 30 ∧ -30 ≤ (nrP a c).2 ∧ (nrP a c).2 ≤ 30 ∧ dok (rsL a c) = true ∧ (rsL a c).length ≤ 900 ∧ Mp a (nrP a c).1 c (nrP a c).2
    ∧ -720 ≤ nrN a b c d ∧ nrN a b c d ≤ 720 ∧ d - (nrP a c).2 = c * nrN a b c d ∧ b - (nrP a c).1 = a * nrN a b c d ∧ 1 ≤ c := by
  obtain ⟨hm, ra, rb, rc, rd_⟩ := h
  have h1 : 1 ≤ c := by
    have := hm.2.2.2.2.2
    omega
  have ho := okN_of (a := a) (c := c) ra ⟨h1, rc.2⟩ (mp_gcd1 hm)
  unfold okN at ho
  simp only [Bool.and_eq_true, decide_eq_true_eq] at ho
  obtain ⟨o1, o2, o3, o4, o5, o6, o7⟩ := ho
  have e : mapL (1, 0, 0, 1) (rsL a c) = (a, (nrP a c).1, c, (nrP a c).2, true) := by
    unfold nrP
    generalize mapL (1, 0, 0, 1) (rsL a c) = q at o1 o2 o3 ⊢
    obtain ⟨q1, q2, q3, q4, q5⟩ := q
    simp only at o1 o2 o3 ⊢
    rw [o1, o2, o3]
  have hp : Mp a (nrP a c).1 c (nrP a c).2 := mapL_mp (rsL a c) (m := (1, 0, 0, 1)) (r := (a, (nrP a c).1, c, (nrP a c).2)) (by decide) e
  have d1 := hm.2.2.2.2.1
  have d2 := hp.2.2.2.2.1
  have o4' : -30 ≤ (nrP a c).1 ∧ (nrP a c).1 ≤ 30 := o4
  have o5' : -30 ≤ (nrP a c).2 ∧ (nrP a c).2 ≤ 30 := o5
  have m1 := mul360 o5' rb
  have m2 := mul360 o4' rd_
  refine ⟨e, o4'.1, o4'.2, o5'.1, o5'.2, o6, o7, hp, by unfold nrN; omega, by unfold nrN; omega, ?_, ?_, h1⟩
  · unfold nrN
    generalize (nrP a c).1 = x at d2 ⊢
    generalize (nrP a c).2 = y at d2 ⊢
    have s1 : c * (y * b - x * d) = y * (b * c) - (x * c) * d := by grind
    have s2 : b * c = a * d - 1 := by omega
    have s3 : x * c = a * y - 1 := by omega
    rw [s1, s2, s3]
    grind
  · unfold nrN
    generalize (nrP a c).1 = x at d2 ⊢
    generalize (nrP a c).2 = y at d2 ⊢
    have s1 : a * (y * b - x * d) = (a * y) * b - x * (a * d) := by grind
    have s2 : a * d = b * c + 1 := by omega
    have s3 : a * y = x * c + 1 := by omega
    rw [s1, s2, s3]
    grind
def nrR (a b c d : Int) : ByteArray × Bool := if c = 0 then (ofL (twL b), true) else if (nrL a b c d).length > 200 then (ofL [], false) else (ofL (nrL a b c d), true)
theorem spec_NormalOf_l0 (s : ByteArray) (h40 : s.size ≤ 2000) (a b c d : Int) (r : Int × Int × Int × Int) (v : Option (ByteArray × Bool)) (hv : ∀ k, 3000 ≤ k → spec_NormalOf.l0 (k + 1) s (s.size : Int) a b c d r.1 r.2.1 r.2.2.1 r.2.2.2 = v) (e : Nat) : ∀ (k : Nat) (i : Nat) (m : Int × Int × Int × Int), e + 3001 ≤ k → i + e = s.size → Mp m.1 m.2.1 m.2.2.1 m.2.2.2 → mapL m (s.data.toList.drop i) = (r.1, r.2.1, r.2.2.1, r.2.2.2, true) → spec_NormalOf.l0 k s (i : Int) a b c d m.1 m.2.1 m.2.2.1 m.2.2.2 = v := by
  have hsz : s.data.toList.length = s.size := by simp
  induction e with
  | zero =>
    intro k i m hk hd hm hr
    obtain ⟨k, rfl⟩ : ∃ m, k = m + 1 := ⟨k - 1, by omega⟩
    rw [List.drop_eq_nil_of_le (by omega)] at hr
    simp only [mapL, Prod.mk.injEq] at hr
    have ei : i = s.size := by omega
    rw [ei, hr.1, hr.2.1, hr.2.2.1, hr.2.2.2.1]
    exact hv k (by omega)
  | succ e ih =>
    intro k i m hk hd hm hr
    obtain ⟨k, rfl⟩ : ∃ m, k = m + 1 := ⟨k - 1, by omega⟩
    have hi : i < s.data.toList.length := by omega
    have hb' : bt s (i : Int) = (s.data.toList[i].toNat : Int) := bt_get s (i : Int) (by omega) (by omega)
    have e1 : ((i : Int) + 1) = ((i + 1 : Nat) : Int) := by omega
    simp only [spec_NormalOf.l0]
    rw [if_pos (by omega), if_pos (by omega), w64 (by omega), hb', e1, spec_l5Move_ev]
    rw [List.drop_eq_getElem_cons hi] at hr
    generalize s.data.toList[i] = x at hr ⊢
    have hp := mvM_mp x
    rw [Option.bind_some, spec_BehindOf_ev k (by omega), if_pos ⟨hm, hp⟩, Option.bind_some]
    simp only [mapL] at hr
    split at hr
    · rename_i hok
      exact ih k (i + 1) (_, _, _, _) (by omega) (by omega) (bh_mp hok) hr
    · simp at hr
theorem spec_NormalOf_tail (k : Nat) (hk : 6000 ≤ k) (a b c d : Int) (h : Nm a b c d) : spec_NormalOf.j0 (k + 1) false a b c d = some (nrR a b c d) := by
  simp only [spec_NormalOf.j0]
  rw [if_neg (by simp)]
  unfold nrR
  by_cases h0 : c = 0
  · have hb := h.2.2.1
    unfold R12 at hb
    rw [if_pos h0, if_pos h0, spec_l4Twists_ev k (by omega) b (by omega), Option.bind_some]
  · obtain ⟨e, p1, p2, p3, p4, hdok, hlen, hp, n1, n2, hdc, hba, h1⟩ := nm_facts h h0
    have ra := h.2.1
    have rc := h.2.2.2.1
    have rd_ := h.2.2.2.2
    unfold R12 at ra rc rd_
    rw [if_neg h0, if_neg h0, spec_l4Dance_ev k (by omega) a c (by omega) (by omega) (by omega), Option.bind_some]
    have hl : (dfL a c).length ≤ 900 := by have : (rsL a c).length = (dfL a c).length + 1 := rfl; omega
    have eR : (⟨#[82]⟩ : ByteArray) ++ ofL (dfL a c) = ofL (rsL a c) := ofL_app [82] (dfL a c)
    rw [if_pos (by rw [ofL_size]; omega), eR]
    refine spec_NormalOf_l0 (ofL (rsL a c)) (by rw [ofL_size]; omega) a b c d (a, (nrP a c).1, c, (nrP a c).2) _ ?_ (ofL (rsL a c)).size k 0 (1, 0, 0, 1) (by rw [ofL_size]; omega) (by omega) (by decide) (by rw [ofL_data]; exact e)
    intro k hk
    simp only [spec_NormalOf.l0]
    have hn := hdc
    have eq : (d - (nrP a c).2).tdiv c = nrN a b c d := by rw [hdc]; exact Int.mul_tdiv_cancel_left _ h0
    rw [if_neg (by omega), if_neg h0, w64 (by omega : -9223372036854775808 ≤ d - (nrP a c).2 ∧ _), eq, w64 (by omega), spec_l4Twists_ev k (by omega) _ (by omega), Option.bind_some]
    have ht := twL_len (nrN a b c d) 720 (by omega)
    rw [if_pos (by rw [ofL_size, ofL_size]; omega), ofL_app]
    show (if ((ofL (nrL a b c d)).size : Int) > 200 then some ((⟨#[]⟩ : ByteArray), false) else some (ofL (nrL a b c d), true)) = _
    rw [ofL_size]
    by_cases hg : (nrL a b c d).length > 200
    · rw [if_pos hg, if_pos (by omega)]; rfl
    · rw [if_neg hg, if_neg (by omega)]
theorem spec_NormalOf_ev (k : Nat) (hk : 6001 ≤ k) (a b c d : Int) : spec_NormalOf.f k a b c d = some (if Nm a b c d then nrR a b c d else (ofL [], false)) := by
  obtain ⟨k, rfl⟩ : ∃ m, k = m + 1 := ⟨k - 1, by omega⟩
  have no : spec_NormalOf.j0 (k + 1) true a b c d = some (ofL [], false) := by
    simp only [spec_NormalOf.j0]
    rw [if_pos trivial]; rfl
  have l1 : ∀ x : Int, spec_l1In.f x (-12) 12 = some (decide (R12 x)) := fun x => spec_l1In_ev x (-12) 12
  unfold spec_NormalOf.f
  rw [spec_MapOk_ev, no, l1, l1, l1]
  simp only [Option.bind_some, decide_eq_true_eq]
  by_cases h1 : Mp a b c d
  · rw [if_pos h1]
    by_cases h2 : R12 a
    · rw [if_pos h2]
      by_cases h3 : R12 b
      · rw [if_pos h3]
        by_cases h4 : c > 12
        · rw [if_pos h4, if_neg (fun x : Nm a b c d => by have := x.2.2.2.1; unfold R12 at this; omega)]
        · have hc : R12 c := by
            have := h1.2.2.2.2.2
            unfold R12; omega
          rw [if_neg h4]
          by_cases h5 : R12 d
          · have hN : Nm a b c d := ⟨h1, h2, h3, hc, h5⟩
            rw [decide_eq_true h5, if_pos hN]
            exact spec_NormalOf_tail k (by omega) a b c d hN
          · rw [decide_eq_false h5, if_neg (fun x : Nm a b c d => h5 x.2.2.2.2)]
            exact no
      · rw [if_neg h3, if_neg (fun x : Nm a b c d => h3 x.2.2.1)]
    · rw [if_neg h2, if_neg (fun x : Nm a b c d => h2 x.2.1)]
  · rw [if_neg h1, if_neg (fun x : Nm a b c d => h1 x.1)]
theorem w_lit4 : wrap64 (0 + 1) = 1 ∧ wrap64 (1 + 1) = 2 ∧ wrap64 (2 + 1) = 3 ∧ wrap64 (3 + 1) = 4 := by refine ⟨?_, ?_, ?_, ?_⟩ <;> (unfold wrap64; omega)
theorem impl_NormalOf_l0 (k : Nat) (hk : 3000 ≤ k) (a b c d : Int) (hm : Mp a b c d) : impl_NormalOf.l0 (k + 5) [a, b, c, d] 4 0 a b c d = some (if Nm a b c d then nrR a b c d else (ofL [], false)) := by
  obtain ⟨w1, w2, w3, w4⟩ := w_lit4
  have e0 : (⟨#[]⟩ : ByteArray) = ofL [] := rfl
  have r0 : rd [a, b, c, d] 0 = a := rfl
  have r1 : rd [a, b, c, d] 1 = b := rfl
  have r2 : rd [a, b, c, d] 2 = c := rfl
  have r3 : rd [a, b, c, d] 3 = d := rfl
  have rl : ([a, b, c, d].length : Int) = 4 := rfl
  have no : ∀ x : Int, (Nm a b c d → R12 x) → ∀ z : Option (ByteArray × Bool), (R12 x → z = some (if Nm a b c d then nrR a b c d else (ofL [], false))) → (if x < (-12) then some (ofL [], false) else if x > 12 then some (ofL [], false) else z) = some (if Nm a b c d then nrR a b c d else (ofL [], false)) := by
    intro x hx z hz
    by_cases h1 : x < -12
    · rw [if_pos h1, if_neg (fun y => by have := hx y; unfold R12 at this; omega)]
    · rw [if_neg h1]
      by_cases h2 : x > 12
      · rw [if_pos h2, if_neg (fun y => by have := hx y; unfold R12 at this; omega)]
      · rw [if_neg h2]
        exact hz ⟨by omega, by omega⟩
  rw [impl_NormalOf.l0.eq_2, if_pos (by decide), if_pos (by decide), rl, if_pos (by decide), r0, e0, w1]
  refine no a (fun y => y.2.1) _ fun ra => ?_
  rw [impl_NormalOf.l0.eq_2, if_pos (by decide), if_pos (by decide), rl, if_pos (by decide), r1, e0, w2]
  refine no b (fun y => y.2.2.1) _ fun rb => ?_
  rw [impl_NormalOf.l0.eq_2, if_pos (by decide), if_pos (by decide), rl, if_pos (by decide), r2, e0, w3]
  refine no c (fun y => y.2.2.2.1) _ fun rc => ?_
  rw [impl_NormalOf.l0.eq_2, if_pos (by decide), if_pos (by decide), rl, if_pos (by decide), r3, e0, w4]
  refine no d (fun y => y.2.2.2.2) _ fun rd_ => ?_
  have hN : Nm a b c d := ⟨hm, ra, rb, rc, rd_⟩
  rw [impl_NormalOf.l0.eq_2, if_neg (by decide), if_pos hN]
  unfold nrR
  have rb' : -12 ≤ b ∧ b ≤ 12 := rb
  by_cases h0 : c = 0
  · rw [if_pos h0, if_pos h0, twists_ev b (by omega), Option.bind_some]
  · obtain ⟨e, p1, p2, p3, p4, hdok, hlen, hp, n1, n2, hdc, hba, h1⟩ := nm_facts hN h0
    have ra' : -12 ≤ a ∧ a ≤ 12 := ra
    have rc' : -12 ≤ c ∧ c ≤ 12 := rc
    rw [if_neg h0, if_neg h0, impl_danceFor_ev k (by omega) a c (by omega) (by omega) (by omega), Option.bind_some]
    have hl : (dfL a c).length ≤ 900 := by have : (rsL a c).length = (dfL a c).length + 1 := rfl; omega
    have eR : (⟨#[82]⟩ : ByteArray) ++ ofL (dfL a c) = ofL (rsL a c) := ofL_app [82] (dfL a c)
    have qa : Pt a := hm.1
    have qb : Pt b := hm.2.1
    have qc : Pt c := hm.2.2.1
    have qd : Pt d := hm.2.2.2.1
    have qx : Pt (nrP a c).1 := hp.2.1
    have qy : Pt (nrP a c).2 := hp.2.2.2.1
    have d2 : (nrP a c).2 * a - (nrP a c).1 * c = 1 := by
      have := hp.2.2.2.2.1
      rw [Int.mul_comm (nrP a c).2 a]; exact this
    rw [if_pos (by rw [ofL_size]; omega), eR, impl_mapOf_ev k _ (by rw [ofL_size]; omega) (by omega), ofL_data, e, Option.bind_some]
    dsimp only
    rw [wdet qy qx qc qa, d2, if_neg (by decide), wdet qy qx qd qb]
    have en : (nrP a c).2 * b - (nrP a c).1 * d = nrN a b c d := rfl
    rw [en, twists_ev _ (by omega), Option.bind_some]
    have ht := twL_len (nrN a b c d) 720 (by omega)
    rw [if_pos (by rw [ofL_size, ofL_size]; omega), ofL_app]
    show (if ((ofL (nrL a b c d)).size : Int) > 200 then some (ofL [], false) else some (ofL (nrL a b c d), true)) = _
    rw [ofL_size]
    by_cases hg : (nrL a b c d).length > 200
    · rw [if_pos hg, if_pos (by omega)]
    · rw [if_neg hg, if_neg (by omega)]
theorem impl_NormalOf_ev (k : Nat) (hk : 3005 ≤ k) (a b c d : Int) : impl_NormalOf.f k a b c d = some (if Nm a b c d then nrR a b c d else (ofL [], false)) := by
  obtain ⟨k, rfl⟩ : ∃ m, k = m + 5 := ⟨k - 5, by omega⟩
  unfold impl_NormalOf.f
  rw [impl_isMap_ev, Option.bind_some]
  simp only [decide_eq_true_eq]
  by_cases h : Mp a b c d
  · rw [if_pos h, Option.bind_some]
    exact impl_NormalOf_l0 k (by omega) a b c d h
  · rw [if_neg h, if_neg (fun x : Nm a b c d => h x.1)]; rfl
def bhM (m : Int × Int × Int × Int) (x : UInt8) : Int × Int × Int × Int × Bool := bh m.1 m.2.1 m.2.2.1 m.2.2.2 (mvM x).1 (mvM x).2.1 (mvM x).2.2.1 (mvM x).2.2.2
def fst4 (r : Int × Int × Int × Int × Bool) : Int × Int × Int × Int := (r.1, r.2.1, r.2.2.1, r.2.2.2.1)
def bdE (m : Int × Int × Int × Int) : Bool := decide (-1000 ≤ m.1 ∧ m.1 ≤ 1000) && (decide (-1000 ≤ m.2.1 ∧ m.2.1 ≤ 1000) && (decide (-1000 ≤ m.2.2.1 ∧ m.2.2.1 ≤ 1000) && decide (-1000 ≤ m.2.2.2 ∧ m.2.2.2 ≤ 1000)))
def bdL : (Int × Int × Int × Int) → List UInt8 → Bool
  | _, [] => true
  | m, x :: l => (bhM m x).2.2.2.2 && (bdE (fst4 (bhM m x)) && bdL (fst4 (bhM m x)) l)
def act4 (m : Int × Int × Int × Int) (n : Int) : Int × Int × Int × Int := (m.1, m.1 * n + m.2.1, m.2.2.1, m.2.2.1 * n + m.2.2.2)
theorem mapL_cons (m : Int × Int × Int × Int) (x : UInt8) (l : List UInt8) : mapL m (x :: l) = if (bhM m x).2.2.2.2 = true then mapL (fst4 (bhM m x)) l else (0, 0, 0, 0, false) := rfl
theorem sgn5_act (x : Int × Int × Int × Int) (n : Int) : sgn5 (act4 x n).1 (act4 x n).2.1 (act4 x n).2.2.1 (act4 x n).2.2.2 = act4 (sgn5 x.1 x.2.1 x.2.2.1 x.2.2.2) n := by
  obtain ⟨a, b, c, d⟩ := x
  unfold act4 sgn5
  dsimp only
  by_cases h1 : c < 0
  · rw [if_pos (Or.inl h1), if_pos (Or.inl h1)]
    simp only [Prod.mk.injEq]
    refine ⟨trivial, by grind, trivial, by grind⟩
  · by_cases h2 : c = 0
    · subst h2
      have e : (0 : Int) * n + d = d := by omega
      rw [e]
      by_cases h3 : d < 0
      · rw [if_pos (Or.inr ⟨rfl, h3⟩), if_pos (Or.inr ⟨rfl, h3⟩)]
        simp only [Prod.mk.injEq]
        refine ⟨trivial, by grind, trivial, by grind⟩
      · rw [if_neg (by omega), if_neg (by omega)]
        simp only [Prod.mk.injEq]
        refine ⟨trivial, trivial, trivial, by omega⟩
    · rw [if_neg (by omega), if_neg (by omega)]
theorem mul500 {x y : Int} (hx : -1000 ≤ x ∧ x ≤ 1000) (hy : -500 ≤ y ∧ y ≤ 500) : -500000 ≤ x * y ∧ x * y ≤ 500000 := by
  have h1 : x.natAbs ≤ 1000 := by omega
  have h2 : y.natAbs ≤ 500 := by omega
  have := Nat.mul_le_mul h1 h2
  rw [← Int.natAbs_mul] at this
  omega
theorem mp_act {y : Int × Int × Int × Int} (n : Int) (h : Mp y.1 y.2.1 y.2.2.1 y.2.2.2) (hb : bdE y = true) (hn : -500 ≤ n ∧ n ≤ 500) : Mp (act4 y n).1 (act4 y n).2.1 (act4 y n).2.2.1 (act4 y n).2.2.2 := by
  obtain ⟨a, b, c, d⟩ := y
  unfold bdE at hb
  simp only [Bool.and_eq_true, decide_eq_true_eq] at hb
  obtain ⟨b1, b2, b3, b4⟩ := hb
  have m1 := mul500 b1 hn
  have m3 := mul500 b3 hn
  obtain ⟨h1, h2, h3, h4, h5, h6⟩ := h
  simp only at h1 h2 h3 h4 h5 h6
  unfold act4
  dsimp only
  refine ⟨h1, by unfold Pt; omega, h3, by unfold Pt; omega, ?_, ?_⟩
  · have e : a * (c * n + d) - (a * n + b) * c = a * d - b * c := by grind
    rw [e]; exact h5
  · rcases h6 with h6 | ⟨h6, h7⟩
    · exact Or.inl h6
    · refine Or.inr ⟨h6, ?_⟩
      rw [h6]; omega
theorem bh_act (m : Int × Int × Int × Int) (x : UInt8) (n : Int) (hn : -500 ≤ n ∧ n ≤ 500) (hok : (bhM m x).2.2.2.2 = true) (hb : bdE (fst4 (bhM m x)) = true) : bhM (act4 m n) x = ((act4 (fst4 (bhM m x)) n).1, (act4 (fst4 (bhM m x)) n).2.1, (act4 (fst4 (bhM m x)) n).2.2.1, (act4 (fst4 (bhM m x)) n).2.2.2, true) := by
  unfold bhM bh at *
  generalize mvM x = t at *
  have e : ((t.1 * (act4 m n).1 + t.2.1 * (act4 m n).2.2.1, t.1 * (act4 m n).2.1 + t.2.1 * (act4 m n).2.2.2, t.2.2.1 * (act4 m n).1 + t.2.2.2 * (act4 m n).2.2.1, t.2.2.1 * (act4 m n).2.1 + t.2.2.2 * (act4 m n).2.2.2) : Int × Int × Int × Int) = act4 (t.1 * m.1 + t.2.1 * m.2.2.1, t.1 * m.2.1 + t.2.1 * m.2.2.2, t.2.2.1 * m.1 + t.2.2.2 * m.2.2.1, t.2.2.1 * m.2.1 + t.2.2.2 * m.2.2.2) n := by
    unfold act4
    simp only [Prod.mk.injEq]
    refine ⟨trivial, by grind, trivial, by grind⟩
  generalize hr : ((t.1 * m.1 + t.2.1 * m.2.2.1, t.1 * m.2.1 + t.2.1 * m.2.2.2, t.2.2.1 * m.1 + t.2.2.2 * m.2.2.1, t.2.2.1 * m.2.1 + t.2.2.2 * m.2.2.2) : Int × Int × Int × Int) = q at e
  have r1 : t.1 * m.1 + t.2.1 * m.2.2.1 = q.1 := congrArg (·.1) hr
  have r2 : t.1 * m.2.1 + t.2.1 * m.2.2.2 = q.2.1 := congrArg (·.2.1) hr
  have r3 : t.2.2.1 * m.1 + t.2.2.2 * m.2.2.1 = q.2.2.1 := congrArg (·.2.2.1) hr
  have r4 : t.2.2.1 * m.2.1 + t.2.2.2 * m.2.2.2 = q.2.2.2 := congrArg (·.2.2.2) hr
  have s1 : t.1 * (act4 m n).1 + t.2.1 * (act4 m n).2.2.1 = (act4 q n).1 := congrArg (·.1) e
  have s2 : t.1 * (act4 m n).2.1 + t.2.1 * (act4 m n).2.2.2 = (act4 q n).2.1 := congrArg (·.2.1) e
  have s3 : t.2.2.1 * (act4 m n).1 + t.2.2.2 * (act4 m n).2.2.1 = (act4 q n).2.2.1 := congrArg (·.2.2.1) e
  have s4 : t.2.2.1 * (act4 m n).2.1 + t.2.2.2 * (act4 m n).2.2.2 = (act4 q n).2.2.2 := congrArg (·.2.2.2) e
  rw [r1, r2, r3, r4] at hok hb ⊢
  rw [s1, s2, s3, s4, sgn5_act]
  generalize sgn5 q.1 q.2.1 q.2.2.1 q.2.2.2 = y at hok hb ⊢
  unfold m5 at hok hb ⊢
  by_cases hy : Mp y.1 y.2.1 y.2.2.1 y.2.2.2
  · rw [if_pos hy] at hb
    have hb' : bdE y = true := hb
    rw [if_pos hy, if_pos (mp_act n hy hb' hn)]
    rfl
  · rw [if_neg hy] at hok
    cases hok
theorem mapL_act (l : List UInt8) (n : Int) (hn : -500 ≤ n ∧ n ≤ 500) : ∀ (m : Int × Int × Int × Int), bdL m l = true → mapL (act4 m n) l = ((act4 (fst4 (mapL m l)) n).1, (act4 (fst4 (mapL m l)) n).2.1, (act4 (fst4 (mapL m l)) n).2.2.1, (act4 (fst4 (mapL m l)) n).2.2.2, true) := by
  induction l with
  | nil => intro m _; rfl
  | cons x l ih =>
    intro m h
    simp only [bdL, Bool.and_eq_true] at h
    obtain ⟨h1, h2, h3⟩ := h
    have e := bh_act m x n hn h1 h2
    rw [mapL_cons, mapL_cons, if_pos h1, if_pos (by rw [e])]
    have e2 : fst4 (bhM (act4 m n) x) = act4 (fst4 (bhM m x)) n := by rw [e]; rfl
    rw [e2]
    exact ih _ h3
theorem bhM_T (j : Int) (h : -1000 ≤ j ∧ j ≤ 1000) : bhM (1, j, 0, 1) 84 = (1, j + 1, 0, 1, true) := by
  have e0 : mvM 84 = (1, 1, 0, 1) := by decide
  unfold bhM bh
  rw [e0]
  dsimp only
  have e1 : (1 : Int) * 1 + 1 * 0 = 1 := by decide
  have e2 : (1 : Int) * j + 1 * 1 = j + 1 := by omega
  have e3 : (0 : Int) * 1 + 1 * 0 = 0 := by decide
  have e4 : (0 : Int) * j + 1 * 1 = 1 := by omega
  rw [e1, e2, e3, e4]
  unfold sgn5
  rw [if_neg (by omega)]
  unfold m5
  have hm : Mp 1 (j + 1) 0 1 := ⟨by unfold Pt; omega, by unfold Pt; omega, by unfold Pt; omega, by unfold Pt; omega, by omega, by omega⟩
  rw [if_pos hm]
theorem bhM_t (j : Int) (h : -1000 ≤ j ∧ j ≤ 1000) : bhM (1, j, 0, 1) 116 = (1, j - 1, 0, 1, true) := by
  have e0 : mvM 116 = (1, -1, 0, 1) := by decide
  unfold bhM bh
  rw [e0]
  dsimp only
  have e1 : (1 : Int) * 1 + -1 * 0 = 1 := by decide
  have e2 : (1 : Int) * j + -1 * 1 = j - 1 := by omega
  have e3 : (0 : Int) * 1 + 1 * 0 = 0 := by decide
  have e4 : (0 : Int) * j + 1 * 1 = 1 := by omega
  rw [e1, e2, e3, e4]
  unfold sgn5
  rw [if_neg (by omega)]
  unfold m5
  have hm : Mp 1 (j - 1) 0 1 := ⟨by unfold Pt; omega, by unfold Pt; omega, by unfold Pt; omega, by unfold Pt; omega, by omega, by omega⟩
  rw [if_pos hm]
theorem mapL_T (l : List UInt8) (k : Nat) : ∀ j : Int, -500 ≤ j → j + k ≤ 500 → mapL (1, j, 0, 1) (List.replicate k 84 ++ l) = mapL (1, j + k, 0, 1) l := by
  induction k with
  | zero => intro j _ _; simp
  | succ k ih =>
    intro j h1 h2
    rw [List.replicate_succ, List.cons_append, mapL_cons, bhM_T j (by omega), if_pos rfl]
    have e : fst4 ((1, j + 1, 0, 1, true) : Int × Int × Int × Int × Bool) = (1, j + 1, 0, 1) := rfl
    rw [e, ih (j + 1) (by omega) (by omega)]
    have e2 : j + 1 + (k : Int) = j + ((k + 1 : Nat) : Int) := by omega
    rw [e2]
theorem mapL_t (l : List UInt8) (k : Nat) : ∀ j : Int, j ≤ 500 → -500 ≤ j - k → mapL (1, j, 0, 1) (List.replicate k 116 ++ l) = mapL (1, j - k, 0, 1) l := by
  induction k with
  | zero => intro j _ _; simp
  | succ k ih =>
    intro j h1 h2
    rw [List.replicate_succ, List.cons_append, mapL_cons, bhM_t j (by omega), if_pos rfl]
    have e : fst4 ((1, j - 1, 0, 1, true) : Int × Int × Int × Int × Bool) = (1, j - 1, 0, 1) := rfl
    rw [e, ih (j - 1) (by omega) (by omega)]
    have e2 : j - 1 - (k : Int) = j - ((k + 1 : Nat) : Int) := by omega
    rw [e2]
theorem mapL_tw (l : List UInt8) (n : Int) (h : -500 ≤ n ∧ n ≤ 500) : mapL (1, 0, 0, 1) (twL n ++ l) = mapL (1, n, 0, 1) l := by
  unfold twL
  rw [List.append_assoc, mapL_T _ _ 0 (by omega) (by omega), mapL_t _ _ _ (by omega) (by omega)]
  have e : (0 : Int) + (n.toNat : Int) - ((-n).toNat : Int) = n := by omega
  rw [e]
set_option maxRecDepth 100000 in
theorem bdN_all : ((List.range 25).all fun a => (List.range 12).all fun c => !decide (Int.gcd ((a : Int) - 12) ((c : Int) + 1) = 1) || bdL (1, 0, 0, 1) (rsL ((a : Int) - 12) ((c : Int) + 1))) = true := by decide +kernel
theorem bdN_of {a c : Int} (ha : -12 ≤ a ∧ a ≤ 12) (hc : 1 ≤ c ∧ c ≤ 12) (h : Int.gcd a c = 1) : bdL (1, 0, 0, 1) (rsL a c) = true := by
  have e := bdN_all
  rw [List.all_eq_true] at e
  have e1 := e (a + 12).toNat (by rw [List.mem_range]; omega)
  rw [List.all_eq_true] at e1
  have e2 := e1 (c - 1).toNat (by rw [List.mem_range]; omega)
  have q1 : ((a + 12).toNat : Int) - 12 = a := by omega
  have q2 : ((c - 1).toNat : Int) + 1 = c := by omega
  rw [q1, q2, decide_eq_true h] at e2
  simpa using e2
theorem twL_dok (n : Int) : dok (twL n) = true := by
  unfold dok twL
  rw [List.all_append, List.all_replicate, List.all_replicate]
  have h1 : mv 84 = true := by decide
  have h2 : mv 116 = true := by decide
  simp [h1, h2]
theorem nr_map {a b c d : Int} (h : Nm a b c d) (hc : ¬ c = 0) (hl : (nrL a b c d).length ≤ 40) : mapL (1, 0, 0, 1) (nrL a b c d) = (a, b, c, d, true) := by
  obtain ⟨e, p1, p2, p3, p4, hdok, hlen, hp, n1, n2, hdc, hba, h1⟩ := nm_facts h hc
  have hn : -500 ≤ nrN a b c d ∧ nrN a b c d ≤ 500 := by
    unfold nrL twL at hl
    simp only [List.length_append, List.length_replicate] at hl
    omega
  unfold nrL
  rw [mapL_tw _ _ hn]
  have ea : ((1, nrN a b c d, 0, 1) : Int × Int × Int × Int) = act4 (1, 0, 0, 1) (nrN a b c d) := by
    unfold act4
    simp only [Prod.mk.injEq]
    refine ⟨trivial, by omega, trivial, by omega⟩
  have hb := bdN_of (a := a) (c := c) h.2.1 ⟨h1, h.2.2.2.1.2⟩ (mp_gcd1 h.1)
  rw [ea, mapL_act _ _ hn _ hb, e]
  unfold act4 fst4
  simp only [Prod.mk.injEq]
  refine ⟨trivial, by omega, trivial, by omega, trivial⟩
theorem tw_map (b : Int) (h : -500 ≤ b ∧ b ≤ 500) : mapL (1, 0, 0, 1) (twL b) = (1, b, 0, 1, true) := by
  have e := mapL_tw [] b h
  rw [List.append_nil] at e
  rw [e]; rfl
theorem draw_normal (k : Nat) (hk : 1000500 ≤ k) (l : List Int) (hw : ∀ x ∈ l, (Lit.int .u8 x).wf = true) : ∃ a b c d, spec_DrawNormalOf.f k l = some (a, b, c, d) := by
  obtain ⟨m, e1, hm⟩ := open_ev l hw
  unfold spec_DrawNormalOf.f
  rw [e1]
  simp only [Option.bind_some]
  obtain ⟨s, p1, e2, h1, h2, h3⟩ := dance_ev k m hm 0 8 0 (by omega) (by omega) (by omega) (by omega)
  rw [e2]
  simp only [Option.bind_some]
  obtain ⟨a, b, c, d, ok, e4, _⟩ := spec_MapOf_some k s (by omega) (by omega)
  rw [e4]
  simp only [Option.bind_some]
  split
  · obtain ⟨r2, e5, _⟩ := pick_ev k (by omega) m hm p1 3 (by omega) (by omega)
    rw [e5]
    simp only [Option.bind_some]
    split
    · exact ⟨_, _, _, _, rfl⟩
    · obtain ⟨a', b', c', d', p', e6, _⟩ := map_ev k (by omega) m hm (p1 + 1) 9 (by omega) (by omega)
      rw [e6]
      exact ⟨_, _, _, _, rfl⟩
  · obtain ⟨a', b', c', d', p', e6, _⟩ := map_ev k (by omega) m hm p1 9 (by omega) (by omega)
    rw [e6]
    exact ⟨_, _, _, _, rfl⟩
theorem twL_no (n : Int) : ∀ x ∈ twL n, ¬ x = 82 := by
  intro x hx
  unfold twL at hx
  rw [List.mem_append, List.mem_replicate, List.mem_replicate] at hx
  rcases hx with h | h <;> rw [h.2] <;> decide
theorem lead (p r : List UInt8) (hl : (p ++ r).length ≤ 100000) (hp : ∀ x ∈ p, ¬ x = 82) (hr : r = [] ∨ ∃ q, r = 82 :: q) (a b c d : Int) (v : Option Bool) (hv : ∀ k, 2000000 ≤ k → laws_FnNormalOf.j2 k (ofL (p ++ r)) (p.length : Int) a b c d = v) (n : Nat) : ∀ (k i : Nat), i + n = p.length → 2000001 + n ≤ k → laws_FnNormalOf.l0 k (ofL (p ++ r)) (i : Int) a b c d = v := by
  induction n with
  | zero =>
    intro k i hi hk
    obtain ⟨k, rfl⟩ : ∃ m, k = m + 1 := ⟨k - 1, by omega⟩
    have ei : i = p.length := by omega
    subst ei
    rw [laws_FnNormalOf.l0.eq_2, ofL_size]
    rcases hr with rfl | ⟨q, rfl⟩
    · rw [if_neg (by simp)]
      exact hv k (by omega)
    · have hlen : p.length < (p ++ 82 :: q).length := by simp
      have hb : bt (ofL (p ++ 82 :: q)) (p.length : Int) = 82 := by
        rw [bt_ofL _ _ hlen]
        simp
      rw [if_pos (by omega), if_pos (by omega), if_pos hb]
      exact hv k (by omega)
  | succ n ih =>
    intro k i hi hk
    obtain ⟨k, rfl⟩ : ∃ m, k = m + 1 := ⟨k - 1, by omega⟩
    have h1 : i < p.length := by omega
    have h2 : i < (p ++ r).length := by rw [List.length_append]; omega
    have e1 : ((i : Int) + 1) = ((i + 1 : Nat) : Int) := by omega
    have e3 : (p ++ r)[i] = p[i] := List.getElem_append_left h1
    have hx : (((p ++ r)[i].toNat : Int) = 82) ↔ (p ++ r)[i] = 82 := u8_eq _ 82 (by omega)
    rw [laws_FnNormalOf.l0.eq_2, ofL_size, if_pos (by omega), if_pos (by omega), bt_ofL _ _ h2, if_neg (fun y => by have := hx.1 y; rw [e3] at this; exact hp _ (List.getElem_mem h1) this), w64 (by omega), e1]
    exact ih k (i + 1) (by omega) (by omega)
theorem norm_j2 (k : Nat) (hk : 2000000 ≤ k) (l : List UInt8) (hl : l.length ≤ 100000) (hd : dok l = true) (t a b c d : Int) (v : Option Bool) (hm : l.length ≤ 40 → mapL (1, 0, 0, 1) l = (a, b, c, d, true)) (hv : ∀ k, 1500000 ≤ k → laws_FnNormalOf.j3 k (ofL l) t false a b c d = v) : laws_FnNormalOf.j2 k (ofL l) t a b c d = v := by
  obtain ⟨k, rfl⟩ : ∃ m, k = m + 1 := ⟨k - 1, by omega⟩
  rw [laws_FnNormalOf.j2.eq_2, impl_MapOf_ev _ _ (by omega), Option.bind_some, ofL_data]
  by_cases h : l.length ≤ 40
  · have hD : Dn (ofL l) := ⟨by rw [ofL_data]; exact hd, by rw [ofL_size]; exact h⟩
    rw [if_pos hD, hm h]
    dsimp only
    have e : ∀ x : Int, (!(x == x)) = false := fun x => by simp
    rw [if_pos rfl, e, e, e, e, if_neg (by simp)]
    exact hv k (by omega)
  · have hD : ¬ Dn (ofL l) := fun x => by have := x.2; rw [ofL_size] at this; omega
    rw [if_neg hD]
    dsimp only
    rw [if_neg (by simp), ofL_size, decide_eq_false (by omega)]
    exact hv k (by omega)
theorem FnNormalOf (l0 : List Int) (hw : ∀ x ∈ l0, (Lit.int .u8 x).wf = true) : ∃ k, laws_FnNormalOf.f k l0 = some true := by
  refine ⟨3000001, ?_⟩
  unfold laws_FnNormalOf.f
  by_cases h : (l0.length : Int) > 1048576
  · rw [if_pos h]
  · rw [if_neg h]
    obtain ⟨a, b, c, d, e⟩ := draw_normal 3000001 (by omega) l0 hw
    rw [e, Option.bind_some]
    dsimp only
    rw [impl_NormalOf_ev _ (by omega), spec_NormalOf_ev _ (by omega), Option.bind_some, Option.bind_some, if_pos rfl]
    rw [show ∀ x : Bool, (x != x) = false from fun x => by cases x <;> rfl]
    rw [laws_FnNormalOf.j0.eq_2, if_neg (by simp)]
    by_cases hN : Nm a b c d
    · rw [if_pos hN]
      unfold nrR
      by_cases h0 : c = 0
      · rw [if_pos h0]
        have hb : -12 ≤ b ∧ b ≤ 12 := hN.2.2.1
        have ht := twL_len b 12 (by omega)
        have hsn : (ofL (twL b), true).2 = true := rfl
        rw [if_pos hsn]
        have hdet := hN.1.2.2.2.2.1
        have hdp := hN.1.2.2.2.2.2
        have hR : -12 ≤ a ∧ a ≤ 12 := hN.2.1
        have hRd : -12 ≤ d ∧ d ≤ 12 := hN.2.2.2.2
        subst h0
        have hd1 : 1 ≤ d := by omega
        have had : a * d = 1 := by rw [Int.mul_zero] at hdet; omega
        have e1 : a = 1 ∧ d = 1 := by
          have h1 : d ∣ 1 := ⟨a, by rw [Int.mul_comm]; exact had.symm⟩
          have h2 := Int.le_of_dvd (by omega) h1
          have h3 : d = 1 := by omega
          rw [h3] at had
          omega
        obtain ⟨rfl, rfl⟩ := e1
        have e4 : twL b ++ [] = twL b := List.append_nil _
        have := lead (twL b) [] (by rw [e4]; omega) (twL_no b) (Or.inl rfl) 1 b 0 1 (some true) ?_ (twL b).length 3000000 0 (by omega) (by omega)
        · rw [e4] at this
          exact this
        · intro k hk
          rw [e4]
          refine norm_j2 k hk (twL b) (by omega) (twL_dok b) _ 1 b 0 1 _ (fun _ => tw_map b (by omega)) ?_
          intro k hk
          obtain ⟨k, rfl⟩ : ∃ m, k = m + 1 := ⟨k - 1, by omega⟩
          rw [laws_FnNormalOf.j3.eq_2, if_neg (by simp), if_pos rfl, ofL_size]
          simp
      · rw [if_neg h0]
        by_cases hg : (nrL a b c d).length > 200
        · rw [if_pos hg]
          have hsn : ¬ (ofL [], false).2 = true := by simp
          rw [if_neg hsn, alive_ev _ (by omega)]; rfl
        · rw [if_neg hg]
          obtain ⟨em, p1, p2, p3, p4, hdok, hlen, hp, n1, n2, hdc, hba, h1⟩ := nm_facts hN h0
          have hsn : (ofL (nrL a b c d), true).2 = true := rfl
          rw [if_pos hsn]
          refine lead (twL (nrN a b c d)) (rsL a c) (by show (nrL a b c d).length ≤ _; omega) (twL_no _) (Or.inr ⟨_, rfl⟩) a b c d (some true) ?_ (twL (nrN a b c d)).length 3000000 0 (by omega) (by have := twL_len (nrN a b c d) 720 (by omega); omega)
          intro k hk
          refine norm_j2 k hk (nrL a b c d) (by omega) (by unfold nrL; rw [dok_app, twL_dok, hdok]; rfl) _ a b c d _ (fun hl => nr_map hN h0 hl) ?_
          intro k hk
          obtain ⟨k, rfl⟩ : ∃ m, k = m + 1 := ⟨k - 1, by omega⟩
          have hR : -12 ≤ a ∧ a ≤ 12 := hN.2.1
          have hRc : -12 ≤ c ∧ c ≤ 12 := hN.2.2.2.1
          have hgc := mp_gcd1 hN.1
          have hlo := low_one hgc
          rw [if_neg (by omega), if_neg (by omega)] at hlo
          have hPt : Pt a ∧ Pt c ∧ ¬(a = 0 ∧ c = 0) := ⟨hN.1.1, hN.1.2.2.1, by omega⟩
          rw [laws_FnNormalOf.j3.eq_2, if_neg (by simp), if_neg h0, impl_LowestOf_ev _ (by omega), if_pos hPt, hlo.1, hlo.2, Option.bind_some]
          dsimp only
          have hF : Fr a c := ⟨by omega, by omega, by omega, by omega, by omega, hgc⟩
          have hS : Fr a c ∧ -12 ≤ a ∧ a ≤ 12 ∧ c ≤ 12 := ⟨hF, by omega, by omega, by omega⟩
          rw [impl_DanceFor_ev _ (by omega), if_pos hS, Option.bind_some]
          dsimp only
          have hln : (nrL a b c d).length = (twL (nrN a b c d)).length + ((dfL a c).length + 1) := by
            unfold nrL rsL
            rw [List.length_append, List.length_cons]
          have hext : (ofL (nrL a b c d)).extract ((twL (nrN a b c d)).length + 1) (nrL a b c d).length = ofL (dfL a c) := by
            apply ByteArray.ext
            unfold nrL rsL
            simp [ofL]
            exact List.take_of_length_le (by omega)
          rw [if_pos rfl, if_pos rfl, ofL_size, if_pos (by omega), w64 (by omega), if_pos (by omega), if_pos (by omega)]
          have e9 : (((twL (nrN a b c d)).length : Int) + 1).toNat = (twL (nrN a b c d)).length + 1 := by omega
          rw [e9, hext]
          simp
    · rw [if_neg hN]
      have hsn : ¬ (ofL [], false).2 = true := by simp
      rw [if_neg hsn, alive_ev _ (by omega)]; rfl
end Go.Proofs.YtebihngdlokhfaaDoor.Pure
