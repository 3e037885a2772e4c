/- What the walked law FnExactLongFrom computes, answers true. -/
import Derived.Test.YtcahmfhlmclgkaaDoorPFnExactLongFromx5
import Derived.OpenShut
namespace Go.Proofs.YtcahmfhlmclgkaaDoor.Pure
open Go.RowKit Go.Proofs.YtcahmfhlmclgkaaDoor.PFnExactLongFrom Go.Proofs.YtcahmfhlmclgkaaDoorW.PrintWords Go.Proofs.YtcahmfhlmclgkaaDoorW.PrintLast Go.Proofs.YtcahmfhlmclgkaaDoorW.PrintMore
set_option linter.unusedVariables false
set_option linter.unusedSimpArgs false
theorem st {P : Prop} [Decidable P] (h : P) : some true = some (decide P) := by simp [h]
theorem sf {P : Prop} [Decidable P] (h : ¬P) : some false = some (decide P) := by simp [h]
theorem sd {P Q : Prop} [Decidable P] [Decidable Q] (h : P ↔ Q) : some (decide P) = some (decide Q) := by simp [h]
theorem w64 {n : Int} (h : -9223372036854775808 ≤ n ∧ n ≤ 9223372036854775807) : wrap64 n = n := by unfold wrap64; omega
def Fr (u d : Int) : Prop := -1000000 ≤ u ∧ u ≤ 1000000 ∧ 0 ≤ d ∧ d ≤ 1000000 ∧ (d = 0 → u = 1) ∧ (Int.gcd u d = 1)
instance (u d : Int) : Decidable (Fr u d) := by unfold Fr; exact inferInstance
def Pt (n : Int) : Prop := -1000000 ≤ n ∧ n ≤ 1000000
instance (n : Int) : Decidable (Pt n) := by unfold Pt; exact inferInstance
theorem gcd_step (a b : Int) : Int.gcd b (Int.tmod a b) = Int.gcd a b := by
  unfold Int.gcd
  rw [Int.natAbs_tmod, Nat.gcd_comm a.natAbs b.natAbs, Nat.gcd_rec b.natAbs a.natAbs, Nat.gcd_comm]
theorem tmod_lt (a b : Int) (h : b ≠ 0) : (Int.tmod a b).natAbs < b.natAbs := by
  rw [Int.natAbs_tmod]
  exact Nat.mod_lt _ (by omega)
theorem tdiv_le (a b : Int) : (Int.tdiv a b).natAbs ≤ a.natAbs := by
  rw [Int.natAbs_tdiv]
  exact Nat.div_le_self _ _
theorem tdiv_w (a b : Int) (h : -1000000 ≤ a ∧ a ≤ 1000000) : wrap64 (Int.tdiv a b) = Int.tdiv a b := by
  have := tdiv_le a b
  exact w64 (by omega)
theorem gcd_le_pt (a b : Int) (ha : Pt a) (hb : Pt b) : (Int.gcd a b : Int) ≤ 1000000 := by
  unfold Pt at ha hb
  by_cases h : a = 0
  · subst h
    rw [Int.zero_gcd]
    omega
  · have := Int.gcd_le_natAbs_left b h
    omega
theorem gcd_pos (a b : Int) (h : ¬(a = 0 ∧ b = 0)) : 0 < Int.gcd a b := by
  rcases Nat.eq_zero_or_pos (Int.gcd a b) with h' | h'
  · exact absurd (Int.gcd_eq_zero_iff.mp h') h
  · exact h'
def sg (u d : Int) : Int := if d < 0 ∨ (d = 0 ∧ u < 0) then -(Int.gcd u d : Int) else (Int.gcd u d : Int)
def lowU (u d : Int) : Int := Int.tdiv u (sg u d)
def lowD (u d : Int) : Int := Int.tdiv d (sg u d)
theorem mulb {a b : Int} (ha : Pt a) (hb : Pt b) : -1000000000000 ≤ a * b ∧ a * b ≤ 1000000000000 := by
  unfold Pt at ha hb
  have h1 : a.natAbs ≤ 1000000 := by omega
  have h2 : b.natAbs ≤ 1000000 := by omega
  have := Nat.mul_le_mul h1 h2
  rw [← Int.natAbs_mul] at this
  omega
theorem wmul {a b : Int} (ha : Pt a) (hb : Pt b) : wrap64 (a * b) = a * b := by
  have := mulb ha hb
  exact w64 (by omega)
theorem Fr.pu {u d : Int} (h : Fr u d) : Pt u := ⟨h.1, h.2.1⟩
theorem Fr.pd {u d : Int} (h : Fr u d) : Pt d := by unfold Fr at h; unfold Pt; omega
theorem Fr.ne {u d : Int} (h : Fr u d) : ¬(-d = 0 ∧ u = 0) := by
  unfold Fr at h; omega
theorem Fr.wn {u d : Int} (h : Fr u d) : wrap64 (-d) = -d := by
  unfold Fr at h; exact w64 (by omega)
theorem Fr.pn {u d : Int} (h : Fr u d) : Pt (-d) := by
  unfold Fr at h; unfold Pt; omega
def ovU (u d : Int) : Int := if u ≤ 0 then d else -d
def ovD (u : Int) : Int := if u ≤ 0 then -u else u
theorem low_one {u d : Int} (h : Int.gcd u d = 1) : lowU u d = (if d < 0 ∨ (d = 0 ∧ u < 0) then -u else u) ∧ lowD u d = (if d < 0 ∨ (d = 0 ∧ u < 0) then -d else d) := by
  unfold lowU lowD sg
  rw [h]
  split
  · simp
  · simp
theorem low_over {u d : Int} (h : Fr u d) : lowU (-d) u = ovU u d ∧ lowD (-d) u = ovD u := by
  have hg : Int.gcd (-d) u = 1 := by rw [Int.neg_gcd, Int.gcd_comm]; exact h.2.2.2.2.2
  obtain ⟨e1, e2⟩ := low_one hg
  rw [e1, e2]
  unfold Fr at h
  unfold ovU ovD
  by_cases h1 : u < 0
  · rw [if_pos (Or.inl h1), if_pos (Or.inl h1), if_pos (by omega), if_pos (by omega)]; omega
  · by_cases h2 : u = 0
    · have : d = 1 ∨ d ≠ 1 := by omega
      have hd : 0 < d := by omega
      rw [if_pos (Or.inr ⟨h2, by omega⟩), if_pos (Or.inr ⟨h2, by omega⟩), if_pos (by omega), if_pos (by omega)]; omega
    · rw [if_neg (by omega), if_neg (by omega), if_neg (by omega), if_neg (by omega)]; omega
theorem Fr.over {u d : Int} (h : Fr u d) : Fr (ovU u d) (ovD u) := by
  have hn := h.ne
  have hg := h.2.2.2.2.2
  have hc : Int.gcd d u = 1 := by rw [Int.gcd_comm]; exact hg
  unfold Fr at h
  unfold ovU ovD
  by_cases h1 : u ≤ 0
  · rw [if_pos h1, if_pos h1]
    exact ⟨by omega, by omega, by omega, by omega, fun x => by
      have hu : u = 0 := by omega
      subst hu
      rw [Int.gcd_zero_right] at hc
      omega, by rw [Int.gcd_neg]; exact hc⟩
  · rw [if_neg h1, if_neg h1]
    exact ⟨by omega, by omega, by omega, by omega, by omega, by rw [Int.neg_gcd]; exact hc⟩
def pl (u d n : Int) : Int × Int × Bool := if Fr (u + n * d) d then (u + n * d, d, true) else (0, 0, false)
theorem wplus {u d n : Int} (hu : Pt u) (hd : Pt d) (hn : Pt n) : wrap64 (u + wrap64 (n * d)) = u + n * d := by
  have := mulb hn hd
  rw [wmul hn hd]
  unfold Pt at hu
  exact w64 (by omega)
def ofL (l : List UInt8) : ByteArray := ⟨l.toArray⟩
theorem ofL_size (l : List UInt8) : (ofL l).size = l.length := by simp [ofL, ByteArray.size]
theorem ofL_data (l : List UInt8) : (ofL l).data.toList = l := by simp [ofL]
theorem bt_get (s : ByteArray) (i : Int) (h0 : 0 ≤ i) (h : i.toNat < s.size) : bt s i = (s.data.toList[i.toNat]'(by simpa using h)).toNat := by
  unfold bt
  rw [dif_pos h]
  rfl
def mv (c : UInt8) : Bool := c == 84 || c == 116 || c == 82
def dok (l : List UInt8) : Bool := l.all mv
theorem mv_iff (c : UInt8) : mv c = true ↔ ((c.toNat : Int) = 84 ∨ (c.toNat : Int) = 116 ∨ (c.toNat : Int) = 82) := by
  unfold mv
  simp only [Bool.or_eq_true, beq_iff_eq]
  have e1 : (84 : UInt8).toNat = 84 := rfl
  have e2 : (116 : UInt8).toNat = 116 := rfl
  have e3 : (82 : UInt8).toNat = 82 := rfl
  rw [← UInt8.toNat_inj, ← UInt8.toNat_inj, ← UInt8.toNat_inj, e1, e2, e3]
  omega
def Dn (s : ByteArray) : Prop := dok s.data.toList = true ∧ s.size ≤ 40
instance (s : ByteArray) : Decidable (Dn s) := by unfold Dn; exact inferInstance
theorem u8_eq (c : UInt8) (n : Nat) (hn : n < 256) : ((c.toNat : Int) = (n : Int)) ↔ c = UInt8.ofNat n := by
  constructor
  · intro h
    have : c.toNat = n := by omega
    rw [← UInt8.toNat_inj, this]
    simp
    omega
  · intro h
    rw [h]
    simp
    omega
theorem impl_isPart_ev (n : Int) : impl_isPart.f n = some (decide (Pt n)) := by
  unfold impl_isPart.f Pt
  split
  · exact sd (by omega)
  · exact sf (by omega)
theorem spec_l1In_ev (n a b : Int) : spec_l1In.f n a b = some (decide (a ≤ n ∧ n ≤ b)) := by
  unfold spec_l1In.f
  split
  · exact sd (by omega)
  · exact sf (by omega)
theorem impl_gcd_l0 (n : Nat) : ∀ (k : Nat) (a b : Int), b.natAbs ≤ n → n < k → a.natAbs ≤ 4611686018427387904 → b.natAbs ≤ 4611686018427387904 → impl_gcd.l0 k a b = some (Int.gcd a b : Int) := by
  induction n with
  | zero =>
    intro k a b hb hk ha _
    obtain ⟨k, rfl⟩ : ∃ m, k = m + 1 := ⟨k - 1, by omega⟩
    have hb0 : b = 0 := by omega
    simp only [impl_gcd.l0]
    rw [if_pos hb0, w64 (by omega), hb0, Int.gcd_zero_right]
    unfold mx; congr 1; split <;> omega
  | succ n ih =>
    intro k a b hb hk ha hb'
    obtain ⟨k, rfl⟩ : ∃ m, k = m + 1 := ⟨k - 1, by omega⟩
    simp only [impl_gcd.l0]
    by_cases h : b = 0
    · rw [if_pos h, w64 (by omega), h, Int.gcd_zero_right]
      unfold mx; congr 1; split <;> omega
    · rw [if_neg h]
      have := tmod_lt a b h
      rw [ih k b (Int.tmod a b) (by omega) (by omega) (by omega) (by omega), gcd_step]
theorem impl_gcd_ev (k : Nat) (hk : 1000002 ≤ k) (a b : Int) (ha : Pt a) (hb : Pt b) : impl_gcd.f k a b = some (Int.gcd a b : Int) := by
  unfold Pt at ha hb
  exact impl_gcd_l0 1000001 k a b (by omega) (by omega) (by omega) (by omega)
theorem spec_l1Common_l0 (n : Nat) : ∀ (k : Nat) (a b : Int), 0 ≤ a → 0 ≤ b → b.natAbs ≤ n → n < k → spec_l1Common.l0 k a b = some (Int.gcd a b : Int) := by
  induction n with
  | zero =>
    intro k a b ha hb0 hb hk
    obtain ⟨k, rfl⟩ : ∃ m, k = m + 1 := ⟨k - 1, by omega⟩
    have hb0 : b = 0 := by omega
    subst hb0
    simp only [spec_l1Common.l0]
    rw [if_neg (by omega), Int.gcd_zero_right]
    congr 1; omega
  | succ n ih =>
    intro k a b ha hb0 hb hk
    obtain ⟨k, rfl⟩ : ∃ m, k = m + 1 := ⟨k - 1, by omega⟩
    simp only [spec_l1Common.l0]
    by_cases h : b = 0
    · subst h
      rw [if_neg (by omega), Int.gcd_zero_right]
      congr 1; omega
    · rw [if_pos (by omega), if_neg h]
      have := tmod_lt a b h
      have h2 := Int.tmod_nonneg b ha
      rw [ih k b (Int.tmod a b) hb0 h2 (by omega) (by omega), gcd_step]
theorem mx_abs (a : Int) (h : Pt a) : mx a (wrap64 (-a)) = (a.natAbs : Int) := by
  unfold Pt at h
  rw [w64 (by omega)]
  unfold mx; split <;> omega
theorem spec_l1Common_ev (k : Nat) (hk : 1000002 ≤ k) (a b : Int) (ha : Pt a) (hb : Pt b) : spec_l1Common.f k a b = some (Int.gcd a b : Int) := by
  unfold spec_l1Common.f
  rw [mx_abs a ha, mx_abs b hb, spec_l1Common_l0 1000001 k _ _ (by omega) (by omega) (by unfold Pt at hb; omega) (by omega)]
  rfl
theorem impl_isFraction_ev (k : Nat) (hk : 1000002 ≤ k) (u d : Int) : impl_isFraction.f k u d = some (decide (Fr u d)) := by
  unfold impl_isFraction.f
  simp only [impl_isPart_ev, Option.bind_some, decide_eq_true_eq]
  by_cases hu : Pt u
  · rw [if_pos hu]
    by_cases h1 : d < 0
    · rw [if_pos h1]; exact sf (by intro h; unfold Fr at h; omega)
    · rw [if_neg h1]
      by_cases h2 : d > 1000000
      · rw [if_pos h2]; exact sf (by intro h; unfold Fr at h; omega)
      · rw [if_neg h2]
        have hd : Pt d := by unfold Pt; omega
        rw [impl_gcd_ev k hk u d hu hd]
        unfold Pt at hu
        have e : ((Int.gcd u d : Int) == 1) = decide (Int.gcd u d = 1) := by rw [Bool.eq_iff_iff]; simp; omega
        simp only [Option.bind_some, e]
        by_cases h3 : d = 0
        · rw [if_pos h3]
          by_cases h4 : u = 1
          · rw [if_pos h4]; exact sd (by unfold Fr; omega)
          · rw [if_neg h4]; exact sf (by intro h; unfold Fr at h; omega)
        · rw [if_neg h3]; exact sd (by unfold Fr; omega)
  · rw [if_neg hu]; exact sf (by intro h; unfold Fr at h; unfold Pt at hu; omega)
theorem spec_FractionOk_ev (k : Nat) (hk : 1000002 ≤ k) (u d : Int) : spec_FractionOk.f k u d = some (decide (Fr u d)) := by
  unfold spec_FractionOk.f
  simp only [spec_l1In_ev, Option.bind_some, decide_eq_true_eq]
  by_cases hu : -1000000 ≤ u ∧ u ≤ 1000000
  · rw [if_pos hu]
    by_cases hd : 0 ≤ d ∧ d ≤ 1000000
    · rw [if_pos hd, spec_l1Common_ev k hk u d hu (by unfold Pt; omega)]
      simp only [Option.bind_some]
      by_cases h1 : (Int.gcd u d : Int) = 1
      · rw [if_pos h1]
        by_cases h3 : d > 0
        · rw [if_pos h3]; exact st (by unfold Fr; omega)
        · rw [if_neg h3]
          have e : (u == 1) = decide (u = 1) := by rw [Bool.eq_iff_iff]; simp
          rw [e]; exact sd (by unfold Fr; omega)
      · rw [if_neg h1]; exact sf (by intro h; unfold Fr at h; omega)
    · rw [if_neg hd]; exact sf (by intro h; unfold Fr at h; omega)
  · rw [if_neg hu]; exact sf (by intro h; unfold Fr at h; omega)
theorem impl_lowest_ev (k : Nat) (hk : 1000002 ≤ k) (u d : Int) (hu : Pt u) (hd : Pt d) (h : ¬(u = 0 ∧ d = 0)) : impl_lowest.f k u d = some (lowU u d, lowD u d) := by
  unfold impl_lowest.f
  rw [impl_gcd_ev k hk u d hu hd]
  simp only [Option.bind_some]
  have hg := gcd_pos u d h
  have hl := gcd_le_pt u d hu hd
  have e1 : wrap64 (-(Int.gcd u d : Int)) = -(Int.gcd u d : Int) := w64 (by omega)
  unfold lowU lowD sg
  rw [e1]
  simp only [tdiv_w _ _ hu, tdiv_w _ _ hd]
  by_cases h1 : d < 0
  · rw [if_pos h1, if_neg (by omega), if_pos (by omega)]
  · rw [if_neg h1]
    by_cases h2 : d = 0
    · rw [if_pos h2]
      by_cases h3 : u < 0
      · rw [if_pos h3, if_neg (by omega), if_pos (by omega)]
      · rw [if_neg h3, if_neg (by omega), if_neg (by omega)]
    · rw [if_neg h2, if_neg (by omega), if_neg (by omega)]
theorem impl_lowest_over (k : Nat) (hk : 1000002 ≤ k) {u d : Int} (h : Fr u d) : impl_lowest.f k (wrap64 (-d)) u = some (ovU u d, ovD u) := by
  rw [h.wn, impl_lowest_ev k hk _ _ h.pn h.pu h.ne, (low_over h).1, (low_over h).2]
theorem spec_LowestOf_ev (k : Nat) (hk : 1000003 ≤ k) (u d : Int) : spec_LowestOf.f k u d = some (if Pt u ∧ Pt d ∧ ¬(u = 0 ∧ d = 0) then (lowU u d, lowD u d, true) else (0, 0, false)) := by
  obtain ⟨k, rfl⟩ : ∃ m, k = m + 1 := ⟨k - 1, by omega⟩
  have jt : spec_LowestOf.j0 (k + 1) u d true = some (0, 0, false) := by simp only [spec_LowestOf.j0]; rw [if_pos trivial]
  have jf : Pt u → Pt d → ¬(u = 0 ∧ d = 0) → spec_LowestOf.j0 (k + 1) u d false = some (lowU u d, lowD u d, true) := by
    intro hu hd h
    simp only [spec_LowestOf.j0]
    rw [if_neg (by simp), spec_l1Common_ev k (by omega) u d hu hd]
    simp only [Option.bind_some]
    have hg := gcd_pos u d h
    have hl := gcd_le_pt u d hu hd
    have e1 : wrap64 (-(Int.gcd u d : Int)) = -(Int.gcd u d : Int) := w64 (by omega)
    unfold lowU lowD sg
    rw [e1]
    simp only [tdiv_w _ _ hu, tdiv_w _ _ hd]
    by_cases h1 : d < 0
    · rw [if_pos h1, if_neg (by omega), if_pos (by omega)]
    · rw [if_neg h1]
      by_cases h2 : d = 0
      · rw [if_pos h2]
        by_cases h3 : u < 0
        · rw [if_pos h3, if_neg (by omega), if_pos (by omega)]
        · rw [if_neg h3, if_neg (by omega), if_neg (by omega)]
      · rw [if_neg h2, if_neg (by omega), if_neg (by omega)]
  have pt : ∀ n : Int, (-1000000 ≤ n ∧ n ≤ 1000000) ↔ Pt n := fun n => Iff.rfl
  unfold spec_LowestOf.f
  simp only [spec_l1In_ev, Option.bind_some, decide_eq_true_eq, pt]
  by_cases hu : Pt u
  · rw [if_pos hu]
    by_cases hd : Pt d
    · rw [if_pos hd]
      by_cases h : u = 0 ∧ d = 0
      · rw [if_pos h.1, if_neg (fun x => x.2.2 h)]
        have : (d == 0) = true := by simpa using h.2
        rw [this]; exact jt
      · have hp : Pt u ∧ Pt d ∧ ¬(u = 0 ∧ d = 0) := ⟨hu, hd, h⟩
        rw [if_pos hp]
        by_cases h1 : u = 0
        · rw [if_pos h1]
          have : (d == 0) = false := by simpa using (by omega : ¬ d = 0)
          rw [this]; exact jf hu hd h
        · rw [if_neg h1]; exact jf hu hd h
    · rw [if_neg hd, if_neg (fun x => hd x.2.1)]; exact jt
  · rw [if_neg hu, if_neg (fun x => hu x.1)]; exact jt
theorem laws_eqFraction_ev (a b c d : Int) : laws_eqFraction.f a b c d = some (decide (a = c ∧ b = d)) := by
  unfold laws_eqFraction.f
  by_cases h : a = c
  · rw [if_pos h]
    by_cases h' : b = d
    · rw [if_pos h']; exact st ⟨h, h'⟩
    · rw [if_neg h']; exact sf (fun x => h' x.2)
  · rw [if_neg h]; exact sf (fun x => h x.1)
theorem laws_eqFraction_same (a b : Int) : laws_eqFraction.f a b a b = some true := by rw [laws_eqFraction_ev]; simp
theorem laws_toFraction_ev (a b : Int) : laws_toFraction.f a b = some (a, b) := rfl
theorem spec_OverOf_ev (k : Nat) (hk : 1000003 ≤ k) (u d : Int) : spec_OverOf.f k u d = some (if Fr u d then (ovU u d, ovD u) else (0, 0)) := by
  unfold spec_OverOf.f
  simp only [spec_FractionOk_ev k (by omega), Option.bind_some, decide_eq_true_eq]
  by_cases h : Fr u d
  · rw [if_pos h, if_pos h, h.wn, spec_LowestOf_ev k hk, if_pos ⟨h.pn, h.pu, h.ne⟩]
    simp only [Option.bind_some, (low_over h).1, (low_over h).2]
  · rw [if_neg h, if_neg h]
theorem spec_PlusOf_ev (k : Nat) (hk : 1000002 ≤ k) (u d n : Int) : spec_PlusOf.f k u d n = some (if Fr u d ∧ Pt n then pl u d n else (0, 0, false)) := by
  have pt : ∀ n : Int, (-1000000 ≤ n ∧ n ≤ 1000000) ↔ Pt n := fun n => Iff.rfl
  unfold spec_PlusOf.f
  simp only [spec_FractionOk_ev k hk, spec_l1In_ev, Option.bind_some, decide_eq_true_eq, pt]
  by_cases h : Fr u d
  · rw [if_pos h]
    by_cases hn : Pt n
    · have hp : Fr u d ∧ Pt n := ⟨h, hn⟩
      rw [if_pos hn, if_pos hp, wplus h.pu h.pd hn]
      unfold pl
      split <;> rfl
    · rw [if_neg hn, if_neg (fun x => hn x.2)]
  · rw [if_neg h, if_neg (fun x => h x.1)]
theorem impl_plus_ev (k : Nat) (hk : 1000002 ≤ k) (u d n : Int) (h : Fr u d) (hn : Pt n) : impl_plus.f k u d n = some (pl u d n) := by
  unfold impl_plus.f
  rw [wplus h.pu h.pd hn, impl_isFraction_ev k hk]
  unfold pl
  simp only [Option.bind_some, decide_eq_true_eq]
  split <;> rfl
theorem spec_DanceOk_l0 (s : ByteArray) (hn : s.size ≤ 1000000000) (d : Nat) : ∀ (k : Nat) (i : Int), 0 ≤ i → i + d = s.size → d < k → spec_DanceOk.l0 k s i = some (decide (dok (s.data.toList.drop i.toNat) = true ∧ s.size ≤ 40)) := by
  have hsz : s.data.toList.length = s.size := by simp
  induction d with
  | zero =>
    intro k i h0 hd hk
    obtain ⟨k, rfl⟩ : ∃ m, k = m + 1 := ⟨k - 1, by omega⟩
    simp only [spec_DanceOk.l0]
    rw [if_neg (by omega), List.drop_eq_nil_of_le (by omega)]
    exact sd ⟨fun x => ⟨rfl, by omega⟩, fun x => by omega⟩
  | succ d ih =>
    intro k i h0 hd hk
    obtain ⟨k, rfl⟩ : ∃ m, k = m + 1 := ⟨k - 1, by omega⟩
    simp only [spec_DanceOk.l0]
    have h1 : i.toNat < s.size := by omega
    have h2 : i.toNat < s.data.toList.length := by omega
    rw [if_pos (by omega), if_pos h0, w64 (by omega), ih k (i + 1) (by omega) (by omega) (by omega)]
    have e : (i + 1).toNat = i.toNat + 1 := by omega
    rw [e, bt_get s i h0 h1, List.drop_eq_getElem_cons h2]
    generalize s.data.toList[i.toNat] = c
    have hm := mv_iff c
    have hc : dok (c :: List.drop (i.toNat + 1) s.data.toList) = (mv c && dok (List.drop (i.toNat + 1) s.data.toList)) := rfl
    rw [hc]
    by_cases c1 : (c.toNat : Int) = 84
    · rw [if_pos c1]; have : mv c = true := hm.2 (Or.inl c1); rw [this, Bool.true_and]
    · rw [if_neg c1]
      by_cases c2 : (c.toNat : Int) = 116
      · rw [if_pos c2]; have : mv c = true := hm.2 (Or.inr (Or.inl c2)); rw [this, Bool.true_and]
      · rw [if_neg c2]
        by_cases c3 : (c.toNat : Int) = 82
        · rw [if_pos c3]; have : mv c = true := hm.2 (Or.inr (Or.inr c3)); rw [this, Bool.true_and]
        · rw [if_neg c3]
          have : mv c = false := by
            rcases Bool.eq_false_or_eq_true (mv c) with h | h
            · have := hm.1 h; omega
            · exact h
          rw [this, Bool.false_and]
          exact sf (by simp)
theorem spec_DanceOk_ev (k : Nat) (s : ByteArray) (hk : s.size < k) (hn : s.size ≤ 1000000000) : spec_DanceOk.f k s = some (decide (Dn s)) := by
  unfold spec_DanceOk.f
  rw [spec_DanceOk_l0 s hn s.size k 0 (by omega) (by omega) hk]
  rfl
theorem impl_isSmall_ev (k : Nat) (hk : 1000002 ≤ k) (u d n : Int) (hn : 0 ≤ n ∧ n ≤ 1000000) : impl_isSmall.f k u d n = some (decide (Fr u d ∧ -n ≤ u ∧ u ≤ n ∧ d ≤ n)) := by
  unfold impl_isSmall.f
  rw [impl_isFraction_ev k hk, w64 (by omega)]
  simp only [Option.bind_some, decide_eq_true_eq]
  by_cases h : Fr u d
  · rw [if_pos h]
    by_cases h1 : u ≥ -n
    · rw [if_pos h1]
      by_cases h2 : u ≤ n
      · rw [if_pos h2]; exact sd ⟨fun x => ⟨h, h1, h2, x⟩, fun x => x.2.2.2⟩
      · rw [if_neg h2]; exact sf (fun x => h2 x.2.2.1)
    · rw [if_neg h1]; exact sf (fun x => h1 x.2.1)
  · rw [if_neg h]; exact sf (fun x => h x.1)
def ovr (f : Int × Int) : Int × Int := (ovU f.1 f.2, ovD f.1)
def plusO (f : Int × Int) (n : Int) : Option (Int × Int) := if Fr (f.1 + n * f.2) f.2 then some (f.1 + n * f.2, f.2) else none
def mvO (f : Int × Int) (c : UInt8) : Option (Int × Int) := if c = 84 then plusO f 1 else if c = 116 then plusO f (-1) else some (ovr f)
def dnc : (Int × Int) → List UInt8 → Option (Int × Int)
  | f, [] => some f
  | f, c :: l => (mvO f c).bind fun g => dnc g l
theorem plusO_fr {f g : Int × Int} {n : Int} (h : plusO f n = some g) : Fr g.1 g.2 ∧ g = (f.1 + n * f.2, f.2) := by
  unfold plusO at h
  split at h
  · have e := Option.some.inj h
    rw [← e]
    exact ⟨by assumption, rfl⟩
  · cases h
theorem mvO_fr {f g : Int × Int} {c : UInt8} (hf : Fr f.1 f.2) (h : mvO f c = some g) : Fr g.1 g.2 := by
  unfold mvO at h
  split at h
  · exact (plusO_fr h).1
  · split at h
    · exact (plusO_fr h).1
    · have e := Option.some.inj h
      rw [← e]
      exact hf.over
theorem mvO_T (f : Int × Int) : mvO f 84 = plusO f 1 := by unfold mvO; rw [if_pos rfl]
theorem mvO_t (f : Int × Int) : mvO f 116 = plusO f (-1) := by unfold mvO; rw [if_neg (by decide), if_pos rfl]
theorem dok_cons (c : UInt8) (l : List UInt8) : dok (c :: l) = (mv c && dok l) := rfl
theorem ext_one (s : ByteArray) (i : Nat) (h : i < s.data.toList.length) : s.extract i (i + 1) = ofL [s.data.toList[i]] := by
  have hsz : s.data.toList.length = s.size := by simp
  apply ByteArray.ext
  simp [ofL]
  apply Array.ext
  · simp
    have e : s.data.size = s.size := rfl
    omega
  · intro j h1 h2
    simp at h2
    simp [h2]
theorem impl_areMoves_ev (s : ByteArray) (hn : s.size ≤ 1000000000) : impl_areMoves.f s = some (dok s.data.toList) := by
  unfold impl_areMoves.f; rw [if_pos (by omega)]; rfl
def dR (o : Option (Int × Int)) : Int × Int × Bool := match o with | some f => (f.1, f.2, true) | none => (0, 0, false)
theorem pl_plusO (u d n : Int) : pl u d n = dR (plusO (u, d) n) := by
  unfold pl plusO
  by_cases h : Fr (u + n * d) d
  · rw [if_pos h, if_pos h]; rfl
  · rw [if_neg h, if_neg h]; rfl
theorem pt1 : Pt 1 ∧ Pt (-1) := by unfold Pt; omega
theorem mvO_84 (f : Int × Int) (c : UInt8) (h : (c.toNat : Int) = 84) : mvO f c = plusO f 1 := by rw [(u8_eq c 84 (by omega)).1 h]; exact mvO_T f
theorem mvO_116 (f : Int × Int) (c : UInt8) (h : (c.toNat : Int) = 116) : mvO f c = plusO f (-1) := by rw [(u8_eq c 116 (by omega)).1 h]; exact mvO_t f
theorem mvO_else (f : Int × Int) (c : UInt8) (h : ¬(c.toNat : Int) = 84) (h2 : ¬(c.toNat : Int) = 116) : mvO f c = some (ovr f) := by
  have g1 : ¬ c = 84 := fun x => h ((u8_eq c 84 (by omega)).2 x)
  have g2 : ¬ c = 116 := fun x => h2 ((u8_eq c 116 (by omega)).2 x)
  unfold mvO
  rw [if_neg g1, if_neg g2]
theorem impl_danced_l0 (s : ByteArray) (h40 : s.size ≤ 2000) (d : Nat) : ∀ (k : Nat) (i : Nat) (f : Int × Int), d + 1000010 ≤ k → i + d = s.size → Fr f.1 f.2 → impl_danced.l0 k s (s.size : Int) (i : Int) f.1 f.2 = some (dR (dnc f (s.data.toList.drop i))) := by
  have hsz : s.data.toList.length = s.size := by simp
  induction d with
  | zero =>
    intro k i f hk hd hf
    obtain ⟨k, rfl⟩ : ∃ m, k = m + 1 := ⟨k - 1, by omega⟩
    simp only [impl_danced.l0]
    rw [if_neg (by omega), List.drop_eq_nil_of_le (by omega)]; rfl
  | succ d ih =>
    intro k i f hk hd hf
    obtain ⟨k, rfl⟩ : ∃ m, k = m + 1 := ⟨k - 1, by omega⟩
    have hi : i < s.data.toList.length := by omega
    have hb' : bt s (i : Int) = (s.data.toList[i].toNat : Int) := bt_get s (i : Int) (by omega) (by omega)
    have e1 : ((i : Int) + 1) = ((i + 1 : Nat) : Int) := by omega
    simp only [impl_danced.l0]
    rw [if_pos (by omega), if_pos (by omega), if_pos (by omega), w64 (by omega), hb', e1, List.drop_eq_getElem_cons hi]
    generalize s.data.toList[i] = c
    show _ = some (dR ((mvO f c).bind fun g => dnc g (List.drop (i + 1) s.data.toList)))
    have tw : ∀ n : Int, Pt n → mvO f c = plusO f n → ((impl_plus.f k f.1 f.2 n).bind fun bt149 => (if bt149.2.2 = true then (impl_danced.l0 k s (s.size : Int) ((i + 1 : Nat) : Int) bt149.1 bt149.2.1) else (some (0, 0, false)))) = some (dR ((mvO f c).bind fun g => dnc g (List.drop (i + 1) s.data.toList))) := by
      intro n hn hm
      rw [impl_plus_ev k (by omega) f.1 f.2 n hf hn, pl_plusO, hm]
      cases hp : plusO (f.1, f.2) n with
      | none => rfl
      | some g => exact ih k (i + 1) g (by omega) (by omega) (plusO_fr hp).1
    by_cases c1 : (c.toNat : Int) = 84
    · rw [if_pos c1]; exact tw 1 pt1.1 (mvO_84 f c c1)
    · rw [if_neg c1]
      by_cases c2 : (c.toNat : Int) = 116
      · rw [if_pos c2]; exact tw (-1) pt1.2 (mvO_116 f c c2)
      · rw [if_neg c2, impl_lowest_over k (by omega) hf, mvO_else f c c1 c2]
        exact ih k (i + 1) (ovr f) (by omega) (by omega) hf.over
theorem impl_danced_ev (k : Nat) (hk : 1002100 ≤ k) (u d : Int) (s : ByteArray) (h40 : s.size ≤ 2000) (hf : Fr u d) : impl_danced.f k u d s = some (dR (dnc (u, d) s.data.toList)) :=
  impl_danced_l0 s h40 s.size k 0 (u, d) (by omega) (by omega) hf
theorem spec_l2Move_ev (k : Nat) (hk : 1000003 ≤ k) (f : Int × Int) (c : UInt8) (hf : Fr f.1 f.2) : spec_l2Move.f k f.1 f.2 (c.toNat : Int) = some (dR (mvO f c)) := by
  unfold spec_l2Move.f
  have tw : ∀ n : Int, Pt n → mvO f c = plusO f n → ((spec_PlusOf.f k f.1 f.2 n).bind fun x => some (x.1, x.2.1, x.2.2)) = some (dR (mvO f c)) := by
    intro n hn hm
    rw [spec_PlusOf_ev k (by omega), if_pos ⟨hf, hn⟩, pl_plusO, hm]; rfl
  by_cases c1 : (c.toNat : Int) = 84
  · rw [if_pos c1]; exact tw 1 pt1.1 (mvO_84 f c c1)
  · rw [if_neg c1]
    by_cases c2 : (c.toNat : Int) = 116
    · rw [if_pos c2]; exact tw (-1) pt1.2 (mvO_116 f c c2)
    · rw [if_neg c2, spec_OverOf_ev k hk, if_pos hf, mvO_else f c c1 c2, spec_FractionOk_ev k (by omega)]
      simp only [Option.bind_some, decide_eq_true hf]
      rfl
def Lg (u d : Int) (s : ByteArray) : Prop := Fr u d ∧ -1000 ≤ u ∧ u ≤ 1000 ∧ d ≤ 1000 ∧ s.size ≤ 1000
instance (u d : Int) (s : ByteArray) : Decidable (Lg u d s) := by unfold Lg; exact inferInstance
def lgR (u d : Int) (s : ByteArray) : Int × Int × Bool := if Lg u d s ∧ dok s.data.toList = true then dR (dnc (u, d) s.data.toList) else (0, 0, false)
theorem impl_LongFrom_ev (k : Nat) (hk : 1002100 ≤ k) (u d : Int) (s : ByteArray) : impl_LongFrom.f k u d s = some (lgR u d s) := by
  unfold impl_LongFrom.f lgR
  rw [impl_isSmall_ev k (by omega) u d 1000 (by omega)]
  simp only [Option.bind_some, decide_eq_true_eq]
  by_cases hs : (s.size : Int) > 1000
  · have hn : ¬(Lg u d s ∧ dok s.data.toList = true) := fun x => by have := x.1.2.2.2.2; omega
    rw [if_pos hs, if_neg hn]
    split <;> rfl
  · rw [if_neg hs]
    rw [impl_areMoves_ev s (by omega)]
    simp only [Option.bind_some]
    split
    · rename_i h
      by_cases hd : dok s.data.toList = true
      · have hy : Lg u d s ∧ dok s.data.toList = true := ⟨⟨h.1, by omega, by omega, by omega, by omega⟩, hd⟩
        rw [if_pos hd, if_pos hy, impl_danced_ev k hk u d s (by omega) h.1]
        rfl
      · have hn : ¬(Lg u d s ∧ dok s.data.toList = true) := fun x => hd x.2
        rw [if_neg hd, if_neg hn]
    · rename_i h
      have hn : ¬(Lg u d s ∧ dok s.data.toList = true) := fun x => h ⟨x.1.1, by have := x.1.2; omega⟩
      rw [if_neg hn]
theorem spec_LongFrom_l0 (s : ByteArray) (hn : s.size ≤ 1000) (d : Nat) : ∀ (k : Nat) (i : Nat) (f : Int × Int), d + 1000100 ≤ k → i + d = s.size → Fr f.1 f.2 → spec_LongFrom.l0 k s (i : Int) f.1 f.2 = some (if dok (s.data.toList.drop i) = true then dR (dnc f (s.data.toList.drop i)) else (0, 0, false)) := by
  have hsz : s.data.toList.length = s.size := by simp
  induction d with
  | zero =>
    intro k i f hk hd hf
    obtain ⟨k, rfl⟩ : ∃ m, k = m + 1 := ⟨k - 1, by omega⟩
    simp only [spec_LongFrom.l0]
    rw [if_neg (by omega), List.drop_eq_nil_of_le (by omega)]; rfl
  | succ d ih =>
    intro k i f hk hd hf
    obtain ⟨k, rfl⟩ : ∃ m, k = m + 1 := ⟨k - 1, by omega⟩
    have hi : i < s.data.toList.length := by omega
    have hb' : bt s (i : Int) = (s.data.toList[i].toNat : Int) := bt_get s (i : Int) (by omega) (by omega)
    have hx := ext_one s i hi
    have e1 : ((i : Int) + 1) = ((i + 1 : Nat) : Int) := by omega
    simp only [spec_LongFrom.l0]
    rw [if_pos (by omega), if_pos (by omega), w64 (by omega), if_pos (by omega), if_pos (by omega), hb', e1, Int.toNat_natCast, Int.toNat_natCast, hx, List.drop_eq_getElem_cons hi]
    generalize s.data.toList[i] = c
    have hs1 : (ofL [c]).size = 1 := by rw [ofL_size]; rfl
    rw [spec_DanceOk_ev k _ (by omega) (by omega)]
    have hdc : Dn (ofL [c]) ↔ mv c = true := by
      unfold Dn
      rw [ofL_data, hs1, dok_cons]
      simp [dok]
    rw [Option.bind_some, spec_l2Move_ev k (by omega) f c hf, dok_cons]
    by_cases hc : mv c = true
    · rw [decide_eq_true (hdc.2 hc), if_pos rfl, hc, Bool.true_and]
      show _ = some (if dok (List.drop (i + 1) s.data.toList) = true then dR ((mvO f c).bind fun g => dnc g (List.drop (i + 1) s.data.toList)) else (0, 0, false))
      cases hm : mvO f c with
      | none =>
        have : (if dok (List.drop (i + 1) s.data.toList) = true then dR ((none : Option (Int × Int)).bind fun g => dnc g (List.drop (i + 1) s.data.toList)) else (0, 0, false)) = (0, 0, false) := by split <;> rfl
        rw [this]; rfl
      | some g => exact ih k (i + 1) g (by omega) (by omega) (mvO_fr hf hm)
    · have hc' : mv c = false := by simpa using hc
      rw [decide_eq_false (fun x => hc (hdc.1 x)), if_neg (by simp), hc', Bool.false_and, if_neg (by simp)]
theorem spec_LongFrom_ev (k : Nat) (u d : Int) (s : ByteArray) (hk : 1002300 ≤ k) : spec_LongFrom.f k u d s = some (lgR u d s) := by
  unfold spec_LongFrom.f lgR
  obtain ⟨k, rfl⟩ : ∃ m, k = m + 1 := ⟨k - 1, by omega⟩
  rw [spec_FractionOk_ev (k + 1) (by omega), spec_l1In_ev]
  simp only [Option.bind_some, spec_LongFrom.j0]
  have tt : (true = true) = True := eq_self true
  by_cases hf : Fr u d
  · rw [decide_eq_true hf, if_pos rfl]
    by_cases hu : -1000 ≤ u ∧ u ≤ 1000
    · rw [decide_eq_true hu, if_pos rfl]
      by_cases hd : d > 1000
      · have hn : ¬(Lg u d s ∧ dok s.data.toList = true) := fun x => by have := x.1.2.2.2.1; omega
        rw [if_pos hd, if_neg hn]; simp
      · rw [if_neg hd]
        by_cases hs : (s.size : Int) > 1000
        · have hn : ¬(Lg u d s ∧ dok s.data.toList = true) := fun x => by have := x.1.2.2.2.2; omega
          rw [decide_eq_true hs, if_pos rfl, if_neg hn]
        · rw [decide_eq_false hs, if_neg (by simp)]
          have hL : Lg u d s := ⟨hf, by omega, by omega, by omega, by omega⟩
          have e := spec_LongFrom_l0 s (by omega) s.size k 0 (u, d) (by omega) (by omega) hf
          have e' : spec_LongFrom.l0 k s 0 u d = some (if dok s.data.toList = true then dR (dnc (u, d) s.data.toList) else (0, 0, false)) := e
          rw [e']
          by_cases hk : dok s.data.toList = true
          · rw [if_pos hk, if_pos ⟨hL, hk⟩]
          · rw [if_neg hk, if_neg (fun x => hk x.2)]
    · have hn : ¬(Lg u d s ∧ dok s.data.toList = true) := fun x => hu ⟨x.1.2.1, x.1.2.2.1⟩
      rw [decide_eq_false hu, if_neg (by simp), if_neg hn]; simp
  · have hn : ¬(Lg u d s ∧ dok s.data.toList = true) := fun x => hf x.1.1
    rw [decide_eq_false hf, if_neg (by simp), if_neg hn]; simp
theorem FnExactLongFrom (u d : Int) (a : ByteArray) (wu : (Lit.int .i64 u).wf = true) (wd : (Lit.int .i64 d).wf = true) : ∃ k, laws_FnExactLongFrom.f k u d a = some true := by
  refine ⟨3000000, ?_⟩
  unfold laws_FnExactLongFrom.f
  by_cases h : (a.size : Int) > 1048576
  · rw [if_pos h]
  · rw [if_neg h]
    simp only [laws_toFraction_ev, Option.bind_some]
    rw [spec_LongFrom_ev _ _ _ a (by omega), impl_LongFrom_ev _ (by omega)]
    simp only [Option.bind_some, laws_eqFraction_same]
    simp
end Go.Proofs.YtcahmfhlmclgkaaDoor.Pure
