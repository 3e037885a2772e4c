/- What the walked law FnExactFasterOf computes, answers true. -/
import Derived.Test.YtpjiimlcdifneaaPFnExactFasterOfx4
import Derived.OpenShut
namespace Go.Proofs.Ytpjiimlcdifneaa.Pure
open Go.RowKit Go.Proofs.Ytpjiimlcdifneaa.PFnExactFasterOf Go.Proofs.YtpjiimlcdifneaaW.PrintWords Go.Proofs.YtpjiimlcdifneaaW.PrintLast Go.Proofs.YtpjiimlcdifneaaW.PrintMore
set_option linter.unusedVariables false
set_option linter.unusedSimpArgs false
theorem st {P : Prop} [Decidable P] (h : P) : some true = some (decide P) := by simp [h]
theorem sf {P : Prop} [Decidable P] (h : ¬P) : some false = some (decide P) := by simp [h]
theorem sd {P Q : Prop} [Decidable P] [Decidable Q] (h : P ↔ Q) : some (decide P) = some (decide Q) := by simp [h]
theorem w64 {n : Int} (h : -9223372036854775808 ≤ n ∧ n ≤ 9223372036854775807) : wrap64 n = n := by unfold wrap64; omega
def Fr (u d : Int) : Prop := -1000000 ≤ u ∧ u ≤ 1000000 ∧ 0 ≤ d ∧ d ≤ 1000000 ∧ (d = 0 → u = 1) ∧ (Int.gcd u d = 1)
instance (u d : Int) : Decidable (Fr u d) := by unfold Fr; exact inferInstance
def Pt (n : Int) : Prop := -1000000 ≤ n ∧ n ≤ 1000000
instance (n : Int) : Decidable (Pt n) := by unfold Pt; exact inferInstance
theorem gcd_step (a b : Int) : Int.gcd b (Int.tmod a b) = Int.gcd a b := by
  unfold Int.gcd
  rw [Int.natAbs_tmod, Nat.gcd_comm a.natAbs b.natAbs, Nat.gcd_rec b.natAbs a.natAbs, Nat.gcd_comm]
theorem tmod_lt (a b : Int) (h : b ≠ 0) : (Int.tmod a b).natAbs < b.natAbs := by
  rw [Int.natAbs_tmod]
  exact Nat.mod_lt _ (by omega)
theorem tdiv_le (a b : Int) : (Int.tdiv a b).natAbs ≤ a.natAbs := by
  rw [Int.natAbs_tdiv]
  exact Nat.div_le_self _ _
theorem tdiv_w (a b : Int) (h : -1000000 ≤ a ∧ a ≤ 1000000) : wrap64 (Int.tdiv a b) = Int.tdiv a b := by
  have := tdiv_le a b
  exact w64 (by omega)
theorem gcd_le_pt (a b : Int) (ha : Pt a) (hb : Pt b) : (Int.gcd a b : Int) ≤ 1000000 := by
  unfold Pt at ha hb
  by_cases h : a = 0
  · subst h
    rw [Int.zero_gcd]
    omega
  · have := Int.gcd_le_natAbs_left b h
    omega
theorem gcd_pos (a b : Int) (h : ¬(a = 0 ∧ b = 0)) : 0 < Int.gcd a b := by
  rcases Nat.eq_zero_or_pos (Int.gcd a b) with h' | h'
  · exact absurd (Int.gcd_eq_zero_iff.mp h') h
  · exact h'
def sg (u d : Int) : Int := if d < 0 ∨ (d = 0 ∧ u < 0) then -(Int.gcd u d : Int) else (Int.gcd u d : Int)
def lowU (u d : Int) : Int := Int.tdiv u (sg u d)
def lowD (u d : Int) : Int := Int.tdiv d (sg u d)
theorem mulb {a b : Int} (ha : Pt a) (hb : Pt b) : -1000000000000 ≤ a * b ∧ a * b ≤ 1000000000000 := by
  unfold Pt at ha hb
  have h1 : a.natAbs ≤ 1000000 := by omega
  have h2 : b.natAbs ≤ 1000000 := by omega
  have := Nat.mul_le_mul h1 h2
  rw [← Int.natAbs_mul] at this
  omega
theorem wmul {a b : Int} (ha : Pt a) (hb : Pt b) : wrap64 (a * b) = a * b := by
  have := mulb ha hb
  exact w64 (by omega)
theorem Fr.pu {u d : Int} (h : Fr u d) : Pt u := ⟨h.1, h.2.1⟩
theorem Fr.pd {u d : Int} (h : Fr u d) : Pt d := by unfold Fr at h; unfold Pt; omega
theorem Fr.ne {u d : Int} (h : Fr u d) : ¬(-d = 0 ∧ u = 0) := by
  unfold Fr at h; omega
theorem Fr.wn {u d : Int} (h : Fr u d) : wrap64 (-d) = -d := by
  unfold Fr at h; exact w64 (by omega)
theorem Fr.pn {u d : Int} (h : Fr u d) : Pt (-d) := by
  unfold Fr at h; unfold Pt; omega
def ovU (u d : Int) : Int := if u ≤ 0 then d else -d
def ovD (u : Int) : Int := if u ≤ 0 then -u else u
theorem low_one {u d : Int} (h : Int.gcd u d = 1) : lowU u d = (if d < 0 ∨ (d = 0 ∧ u < 0) then -u else u) ∧ lowD u d = (if d < 0 ∨ (d = 0 ∧ u < 0) then -d else d) := by
  unfold lowU lowD sg
  rw [h]
  split
  · simp
  · simp
theorem low_over {u d : Int} (h : Fr u d) : lowU (-d) u = ovU u d ∧ lowD (-d) u = ovD u := by
  have hg : Int.gcd (-d) u = 1 := by rw [Int.neg_gcd, Int.gcd_comm]; exact h.2.2.2.2.2
  obtain ⟨e1, e2⟩ := low_one hg
  rw [e1, e2]
  unfold Fr at h
  unfold ovU ovD
  by_cases h1 : u < 0
  · rw [if_pos (Or.inl h1), if_pos (Or.inl h1), if_pos (by omega), if_pos (by omega)]; omega
  · by_cases h2 : u = 0
    · have : d = 1 ∨ d ≠ 1 := by omega
      have hd : 0 < d := by omega
      rw [if_pos (Or.inr ⟨h2, by omega⟩), if_pos (Or.inr ⟨h2, by omega⟩), if_pos (by omega), if_pos (by omega)]; omega
    · rw [if_neg (by omega), if_neg (by omega), if_neg (by omega), if_neg (by omega)]; omega
theorem Fr.over {u d : Int} (h : Fr u d) : Fr (ovU u d) (ovD u) := by
  have hn := h.ne
  have hg := h.2.2.2.2.2
  have hc : Int.gcd d u = 1 := by rw [Int.gcd_comm]; exact hg
  unfold Fr at h
  unfold ovU ovD
  by_cases h1 : u ≤ 0
  · rw [if_pos h1, if_pos h1]
    exact ⟨by omega, by omega, by omega, by omega, fun x => by
      have hu : u = 0 := by omega
      subst hu
      rw [Int.gcd_zero_right] at hc
      omega, by rw [Int.gcd_neg]; exact hc⟩
  · rw [if_neg h1, if_neg h1]
    exact ⟨by omega, by omega, by omega, by omega, by omega, by rw [Int.neg_gcd]; exact hc⟩
def pl (u d n : Int) : Int × Int × Bool := if Fr (u + n * d) d then (u + n * d, d, true) else (0, 0, false)
theorem wplus {u d n : Int} (hu : Pt u) (hd : Pt d) (hn : Pt n) : wrap64 (u + wrap64 (n * d)) = u + n * d := by
  have := mulb hn hd
  rw [wmul hn hd]
  unfold Pt at hu
  exact w64 (by omega)
theorem ltge (a b : Int) : a < b ∨ b ≤ a := by omega
def t2 (n : Int) : Bool := decide (2 ≤ n ∧ n ≤ 60)
def ofL (l : List UInt8) : ByteArray := ⟨l.toArray⟩
theorem ofL_size (l : List UInt8) : (ofL l).size = l.length := by simp [ofL, ByteArray.size]
theorem ofL_app (l m : List UInt8) : ofL l ++ ofL m = ofL (l ++ m) := by
  apply ByteArray.ext; simp [ofL]
theorem impl_isPart_ev (n : Int) : impl_isPart.f n = some (decide (Pt n)) := by
  unfold impl_isPart.f Pt
  split
  · exact sd (by omega)
  · exact sf (by omega)
theorem spec_l1In_ev (n a b : Int) : spec_l1In.f n a b = some (decide (a ≤ n ∧ n ≤ b)) := by
  unfold spec_l1In.f
  split
  · exact sd (by omega)
  · exact sf (by omega)
theorem impl_gcd_l0 (n : Nat) : ∀ (k : Nat) (a b : Int), b.natAbs ≤ n → n < k → a.natAbs ≤ 4611686018427387904 → b.natAbs ≤ 4611686018427387904 → impl_gcd.l0 k a b = some (Int.gcd a b : Int) := by
  induction n with
  | zero =>
    intro k a b hb hk ha _
    obtain ⟨k, rfl⟩ : ∃ m, k = m + 1 := ⟨k - 1, by omega⟩
    have hb0 : b = 0 := by omega
    simp only [impl_gcd.l0]
    rw [if_pos hb0, w64 (by omega), hb0, Int.gcd_zero_right]
    unfold mx; congr 1; split <;> omega
  | succ n ih =>
    intro k a b hb hk ha hb'
    obtain ⟨k, rfl⟩ : ∃ m, k = m + 1 := ⟨k - 1, by omega⟩
    simp only [impl_gcd.l0]
    by_cases h : b = 0
    · rw [if_pos h, w64 (by omega), h, Int.gcd_zero_right]
      unfold mx; congr 1; split <;> omega
    · rw [if_neg h]
      have := tmod_lt a b h
      rw [ih k b (Int.tmod a b) (by omega) (by omega) (by omega) (by omega), gcd_step]
theorem impl_gcd_ev (k : Nat) (hk : 1000002 ≤ k) (a b : Int) (ha : Pt a) (hb : Pt b) : impl_gcd.f k a b = some (Int.gcd a b : Int) := by
  unfold Pt at ha hb
  exact impl_gcd_l0 1000001 k a b (by omega) (by omega) (by omega) (by omega)
theorem spec_l1Common_l0 (n : Nat) : ∀ (k : Nat) (a b : Int), 0 ≤ a → 0 ≤ b → b.natAbs ≤ n → n < k → spec_l1Common.l0 k a b = some (Int.gcd a b : Int) := by
  induction n with
  | zero =>
    intro k a b ha hb0 hb hk
    obtain ⟨k, rfl⟩ : ∃ m, k = m + 1 := ⟨k - 1, by omega⟩
    have hb0 : b = 0 := by omega
    subst hb0
    simp only [spec_l1Common.l0]
    rw [if_neg (by omega), Int.gcd_zero_right]
    congr 1; omega
  | succ n ih =>
    intro k a b ha hb0 hb hk
    obtain ⟨k, rfl⟩ : ∃ m, k = m + 1 := ⟨k - 1, by omega⟩
    simp only [spec_l1Common.l0]
    by_cases h : b = 0
    · subst h
      rw [if_neg (by omega), Int.gcd_zero_right]
      congr 1; omega
    · rw [if_pos (by omega), if_neg h]
      have := tmod_lt a b h
      have h2 := Int.tmod_nonneg b ha
      rw [ih k b (Int.tmod a b) hb0 h2 (by omega) (by omega), gcd_step]
theorem mx_abs (a : Int) (h : Pt a) : mx a (wrap64 (-a)) = (a.natAbs : Int) := by
  unfold Pt at h
  rw [w64 (by omega)]
  unfold mx; split <;> omega
theorem spec_l1Common_ev (k : Nat) (hk : 1000002 ≤ k) (a b : Int) (ha : Pt a) (hb : Pt b) : spec_l1Common.f k a b = some (Int.gcd a b : Int) := by
  unfold spec_l1Common.f
  rw [mx_abs a ha, mx_abs b hb, spec_l1Common_l0 1000001 k _ _ (by omega) (by omega) (by unfold Pt at hb; omega) (by omega)]
  rfl
theorem impl_isFraction_ev (k : Nat) (hk : 1000002 ≤ k) (u d : Int) : impl_isFraction.f k u d = some (decide (Fr u d)) := by
  unfold impl_isFraction.f
  simp only [impl_isPart_ev, Option.bind_some, decide_eq_true_eq]
  by_cases hu : Pt u
  · rw [if_pos hu]
    by_cases h1 : d < 0
    · rw [if_pos h1]; exact sf (by intro h; unfold Fr at h; omega)
    · rw [if_neg h1]
      by_cases h2 : d > 1000000
      · rw [if_pos h2]; exact sf (by intro h; unfold Fr at h; omega)
      · rw [if_neg h2]
        have hd : Pt d := by unfold Pt; omega
        rw [impl_gcd_ev k hk u d hu hd]
        unfold Pt at hu
        have e : ((Int.gcd u d : Int) == 1) = decide (Int.gcd u d = 1) := by rw [Bool.eq_iff_iff]; simp; omega
        simp only [Option.bind_some, e]
        by_cases h3 : d = 0
        · rw [if_pos h3]
          by_cases h4 : u = 1
          · rw [if_pos h4]; exact sd (by unfold Fr; omega)
          · rw [if_neg h4]; exact sf (by intro h; unfold Fr at h; omega)
        · rw [if_neg h3]; exact sd (by unfold Fr; omega)
  · rw [if_neg hu]; exact sf (by intro h; unfold Fr at h; unfold Pt at hu; omega)
theorem spec_FractionOk_ev (k : Nat) (hk : 1000002 ≤ k) (u d : Int) : spec_FractionOk.f k u d = some (decide (Fr u d)) := by
  unfold spec_FractionOk.f
  simp only [spec_l1In_ev, Option.bind_some, decide_eq_true_eq]
  by_cases hu : -1000000 ≤ u ∧ u ≤ 1000000
  · rw [if_pos hu]
    by_cases hd : 0 ≤ d ∧ d ≤ 1000000
    · rw [if_pos hd, spec_l1Common_ev k hk u d hu (by unfold Pt; omega)]
      simp only [Option.bind_some]
      by_cases h1 : (Int.gcd u d : Int) = 1
      · rw [if_pos h1]
        by_cases h3 : d > 0
        · rw [if_pos h3]; exact st (by unfold Fr; omega)
        · rw [if_neg h3]
          have e : (u == 1) = decide (u = 1) := by rw [Bool.eq_iff_iff]; simp
          rw [e]; exact sd (by unfold Fr; omega)
      · rw [if_neg h1]; exact sf (by intro h; unfold Fr at h; omega)
    · rw [if_neg hd]; exact sf (by intro h; unfold Fr at h; omega)
  · rw [if_neg hu]; exact sf (by intro h; unfold Fr at h; omega)
theorem impl_lowest_ev (k : Nat) (hk : 1000002 ≤ k) (u d : Int) (hu : Pt u) (hd : Pt d) (h : ¬(u = 0 ∧ d = 0)) : impl_lowest.f k u d = some (lowU u d, lowD u d) := by
  unfold impl_lowest.f
  rw [impl_gcd_ev k hk u d hu hd]
  simp only [Option.bind_some]
  have hg := gcd_pos u d h
  have hl := gcd_le_pt u d hu hd
  have e1 : wrap64 (-(Int.gcd u d : Int)) = -(Int.gcd u d : Int) := w64 (by omega)
  unfold lowU lowD sg
  rw [e1]
  simp only [tdiv_w _ _ hu, tdiv_w _ _ hd]
  by_cases h1 : d < 0
  · rw [if_pos h1, if_neg (by omega), if_pos (by omega)]
  · rw [if_neg h1]
    by_cases h2 : d = 0
    · rw [if_pos h2]
      by_cases h3 : u < 0
      · rw [if_pos h3, if_neg (by omega), if_pos (by omega)]
      · rw [if_neg h3, if_neg (by omega), if_neg (by omega)]
    · rw [if_neg h2, if_neg (by omega), if_neg (by omega)]
theorem impl_lowest_over (k : Nat) (hk : 1000002 ≤ k) {u d : Int} (h : Fr u d) : impl_lowest.f k (wrap64 (-d)) u = some (ovU u d, ovD u) := by
  rw [h.wn, impl_lowest_ev k hk _ _ h.pn h.pu h.ne, (low_over h).1, (low_over h).2]
theorem spec_LowestOf_ev (k : Nat) (hk : 1000003 ≤ k) (u d : Int) : spec_LowestOf.f k u d = some (if Pt u ∧ Pt d ∧ ¬(u = 0 ∧ d = 0) then (lowU u d, lowD u d, true) else (0, 0, false)) := by
  obtain ⟨k, rfl⟩ : ∃ m, k = m + 1 := ⟨k - 1, by omega⟩
  have jt : spec_LowestOf.j0 (k + 1) u d true = some (0, 0, false) := by simp only [spec_LowestOf.j0]; rw [if_pos trivial]
  have jf : Pt u → Pt d → ¬(u = 0 ∧ d = 0) → spec_LowestOf.j0 (k + 1) u d false = some (lowU u d, lowD u d, true) := by
    intro hu hd h
    simp only [spec_LowestOf.j0]
    rw [if_neg (by simp), spec_l1Common_ev k (by omega) u d hu hd]
    simp only [Option.bind_some]
    have hg := gcd_pos u d h
    have hl := gcd_le_pt u d hu hd
    have e1 : wrap64 (-(Int.gcd u d : Int)) = -(Int.gcd u d : Int) := w64 (by omega)
    unfold lowU lowD sg
    rw [e1]
    simp only [tdiv_w _ _ hu, tdiv_w _ _ hd]
    by_cases h1 : d < 0
    · rw [if_pos h1, if_neg (by omega), if_pos (by omega)]
    · rw [if_neg h1]
      by_cases h2 : d = 0
      · rw [if_pos h2]
        by_cases h3 : u < 0
        · rw [if_pos h3, if_neg (by omega), if_pos (by omega)]
        · rw [if_neg h3, if_neg (by omega), if_neg (by omega)]
      · rw [if_neg h2, if_neg (by omega), if_neg (by omega)]
  have pt : ∀ n : Int, (-1000000 ≤ n ∧ n ≤ 1000000) ↔ Pt n := fun n => Iff.rfl
  unfold spec_LowestOf.f
  simp only [spec_l1In_ev, Option.bind_some, decide_eq_true_eq, pt]
  by_cases hu : Pt u
  · rw [if_pos hu]
    by_cases hd : Pt d
    · rw [if_pos hd]
      by_cases h : u = 0 ∧ d = 0
      · rw [if_pos h.1, if_neg (fun x => x.2.2 h)]
        have : (d == 0) = true := by simpa using h.2
        rw [this]; exact jt
      · have hp : Pt u ∧ Pt d ∧ ¬(u = 0 ∧ d = 0) := ⟨hu, hd, h⟩
        rw [if_pos hp]
        by_cases h1 : u = 0
        · rw [if_pos h1]
          have : (d == 0) = false := by simpa using (by omega : ¬ d = 0)
          rw [this]; exact jf hu hd h
        · rw [if_neg h1]; exact jf hu hd h
    · rw [if_neg hd, if_neg (fun x => hd x.2.1)]; exact jt
  · rw [if_neg hu, if_neg (fun x => hu x.1)]; exact jt
theorem laws_toFraction_ev (a b : Int) : laws_toFraction.f a b = some (a, b) := rfl
theorem spec_OverOf_ev (k : Nat) (hk : 1000003 ≤ k) (u d : Int) : spec_OverOf.f k u d = some (if Fr u d then (ovU u d, ovD u) else (0, 0)) := by
  unfold spec_OverOf.f
  simp only [spec_FractionOk_ev k (by omega), Option.bind_some, decide_eq_true_eq]
  by_cases h : Fr u d
  · rw [if_pos h, if_pos h, h.wn, spec_LowestOf_ev k hk, if_pos ⟨h.pn, h.pu, h.ne⟩]
    simp only [Option.bind_some, (low_over h).1, (low_over h).2]
  · rw [if_neg h, if_neg h]
theorem spec_PlusOf_ev (k : Nat) (hk : 1000002 ≤ k) (u d n : Int) : spec_PlusOf.f k u d n = some (if Fr u d ∧ Pt n then pl u d n else (0, 0, false)) := by
  have pt : ∀ n : Int, (-1000000 ≤ n ∧ n ≤ 1000000) ↔ Pt n := fun n => Iff.rfl
  unfold spec_PlusOf.f
  simp only [spec_FractionOk_ev k hk, spec_l1In_ev, Option.bind_some, decide_eq_true_eq, pt]
  by_cases h : Fr u d
  · rw [if_pos h]
    by_cases hn : Pt n
    · have hp : Fr u d ∧ Pt n := ⟨h, hn⟩
      rw [if_pos hn, if_pos hp, wplus h.pu h.pd hn]
      unfold pl
      split <;> rfl
    · rw [if_neg hn, if_neg (fun x => hn x.2)]
  · rw [if_neg h, if_neg (fun x => h x.1)]
theorem impl_isSmall_ev (k : Nat) (hk : 1000002 ≤ k) (u d n : Int) (hn : 0 ≤ n ∧ n ≤ 1000000) : impl_isSmall.f k u d n = some (decide (Fr u d ∧ -n ≤ u ∧ u ≤ n ∧ d ≤ n)) := by
  unfold impl_isSmall.f
  rw [impl_isFraction_ev k hk, w64 (by omega)]
  simp only [Option.bind_some, decide_eq_true_eq]
  by_cases h : Fr u d
  · rw [if_pos h]
    by_cases h1 : u ≥ -n
    · rw [if_pos h1]
      by_cases h2 : u ≤ n
      · rw [if_pos h2]; exact sd ⟨fun x => ⟨h, h1, h2, x⟩, fun x => x.2.2.2⟩
      · rw [if_neg h2]; exact sf (fun x => h2 x.2.2.1)
    · rw [if_neg h1]; exact sf (fun x => h1 x.2.1)
  · rw [if_neg h]; exact sf (fun x => h x.1)
def ce (u d : Int) : Int := -((-u) / d)
theorem ce_spec {u d : Int} (hd : 0 < d) : 0 ≤ ce u d * d - u ∧ ce u d * d - u < d := by
  have h1 := Int.emod_nonneg (-u) (show d ≠ 0 by omega)
  have h2 := Int.emod_lt_of_pos (-u) hd
  have h3 := Int.mul_ediv_add_emod (-u) d
  unfold ce
  rw [Int.neg_mul, Int.mul_comm]
  omega
theorem ce_unique {u d c : Int} (hd : 0 < d) (h0 : 0 ≤ c * d - u) (h1 : c * d - u < d) : c = ce u d := by
  have h2 := ce_spec (u := u) hd
  rcases ltge c (ce u d) with h | h
  · have : (c + 1) * d ≤ ce u d * d := Int.mul_le_mul_of_nonneg_right (by omega) (by omega)
    rw [Int.add_mul, Int.one_mul] at this
    omega
  · by_cases e : c = ce u d
    · exact e
    · have : (ce u d + 1) * d ≤ c * d := Int.mul_le_mul_of_nonneg_right (by omega) (by omega)
      rw [Int.add_mul, Int.one_mul] at this
      omega
theorem tdiv_facts (u d : Int) (hd : 0 < d) : (0 ≤ u → 0 ≤ u - Int.tdiv u d * d ∧ u - Int.tdiv u d * d < d) ∧ (u < 0 → 0 ≤ Int.tdiv u d * d - u ∧ Int.tdiv u d * d - u < d) := by
  have h := Int.mul_tdiv_add_tmod u d
  rw [Int.mul_comm] at h
  constructor
  · intro hu
    have h1 := Int.tmod_nonneg d hu
    have h2 := Int.tmod_lt_of_pos u hd
    omega
  · intro hu
    have h1 := Int.tmod_nonneg d (show 0 ≤ -u by omega)
    have h2 := Int.tmod_lt_of_pos (-u) hd
    rw [Int.neg_tmod] at h1 h2
    omega
theorem ce_bd {u d n : Int} (hd : 0 < d) (h : -n ≤ u ∧ u ≤ n) (hn : 0 ≤ n) : -n ≤ ce u d ∧ ce u d ≤ n := by
  have h2 := ce_spec (u := u) hd
  constructor
  · rcases ltge (ce u d) (-n) with h' | h'
    · exfalso
      have t1 : ce u d * d ≤ (-n - 1) * d := Int.mul_le_mul_of_nonneg_right (by omega) (by omega)
      have t2 : (-n - 1) * d ≤ (-n - 1) * 1 := Int.mul_le_mul_of_nonpos_left (by omega) (by omega)
      omega
    · exact h'
  · rcases ltge n (ce u d) with h' | h'
    · exfalso
      have t1 : (n + 1) * d ≤ ce u d * d := Int.mul_le_mul_of_nonneg_right (by omega) (by omega)
      rw [Int.add_mul, Int.one_mul] at t1
      have t2 : n * 1 ≤ n * d := Int.mul_le_mul_of_nonneg_left (by omega) hn
      omega
    · exact h'
theorem impl_ceiling_ev (u d : Int) (hd : 0 < d) (hb : d ≤ 1000) (hu : -1000 ≤ u ∧ u ≤ 1000) : impl_ceiling.f u d = some (ce u d) := by
  unfold impl_ceiling.f
  have b := tdiv_le u d
  have f := tdiv_facts u d hd
  have w1 : wrap64 (Int.tdiv u d) = Int.tdiv u d := w64 (by omega)
  have pm := mulb (a := Int.tdiv u d) (b := d) (by unfold Pt; omega) (by unfold Pt; omega)
  have w2 : wrap64 (Int.tdiv u d * d) = Int.tdiv u d * d := w64 (by omega)
  rw [if_neg (by omega), w1, w2]
  by_cases h : Int.tdiv u d * d < u
  · rw [if_pos h, w64 (by omega)]
    congr 1
    refine ce_unique hd ?_ ?_ <;> rw [Int.add_mul, Int.one_mul]
    · have h' : 0 ≤ u := by
        rcases ltge u 0 with x | x
        · have := f.2 x; omega
        · exact x
      have := f.1 h'
      omega
    · omega
  · rw [if_neg h]
    congr 1
    refine ce_unique hd (by omega) ?_
    rcases ltge u 0 with x | x
    · have := f.2 x; omega
    · have := f.1 x; omega
def twL (a : Int) : List UInt8 := List.replicate a.toNat 84 ++ List.replicate (-a).toNat 116
theorem twL_len (a n : Int) (h : -n ≤ a ∧ a ≤ n) : ((twL a).length : Int) ≤ n := by
  unfold twL; simp; omega
theorem twists_ev (a : Int) (h : -1000000 ≤ a ∧ a ≤ 1000000) : impl_twists.f a = some (ofL (twL a)) := by
  unfold impl_twists.f; rw [if_pos h]; rfl
def fsL : Nat → Int → Int → List UInt8
  | 0, _, _ => []
  | n + 1, u, d => if u = 0 then [] else twL (-(ce u d)) ++ (if u - ce u d * d = 0 then [] else 82 :: fsL n d (-(u - ce u d * d)))
def fsW (u d : Int) : List UInt8 := if d = 0 then [82] else fsL 13 u d
def Sf (u d : Int) : Prop := Fr u d ∧ -12 ≤ u ∧ u ≤ 12 ∧ d ≤ 12
instance (u d : Int) : Decidable (Sf u d) := by unfold Sf; exact inferInstance
theorem sf_step {u d : Int} (h : Sf u d) (hd : 0 < d) : -12 ≤ ce u d ∧ ce u d ≤ 12 ∧ -144 ≤ ce u d * d ∧ ce u d * d ≤ 144 ∧ Fr (u - ce u d * d) d ∧ -12 ≤ u - ce u d * d ∧ u - ce u d * d ≤ 0 ∧ (u - ce u d * d ≠ 0 → ovU (u - ce u d * d) d = d ∧ ovD (u - ce u d * d) = -(u - ce u d * d) ∧ Sf d (-(u - ce u d * d)) ∧ 0 < -(u - ce u d * d) ∧ -(u - ce u d * d) < d) := by
  have hc := ce_spec (u := u) hd
  obtain ⟨hf, h1, h2, h3⟩ := h
  have hb := ce_bd (n := 12) hd ⟨h1, h2⟩ (by omega)
  have hF : Fr (u - ce u d * d) d := by
    have hg := hf.2.2.2.2.2
    refine ⟨by omega, by omega, by omega, by omega, by omega, ?_⟩
    have e : u - ce u d * d = u + (-(ce u d)) * d := by rw [Int.neg_mul]; omega
    rw [e, Int.gcd_add_mul_right_left]
    exact hg
  refine ⟨hb.1, hb.2, by omega, by omega, hF, by omega, by omega, fun hne => ?_⟩
  have ho := hF.over
  have e1 : ovU (u - ce u d * d) d = d := by unfold ovU; rw [if_pos (by omega)]
  have e2 : ovD (u - ce u d * d) = -(u - ce u d * d) := by unfold ovD; rw [if_pos (by omega)]
  rw [e1, e2] at ho
  exact ⟨e1, e2, ⟨ho, by omega, by omega, by omega⟩, by omega, by omega⟩
theorem twL_neg (a : Int) : twL (-a) = List.replicate a.toNat 116 ++ List.replicate (-a).toNat 84 := by
  unfold twL
  rw [Int.neg_neg]
  by_cases h : 0 ≤ a
  · have : (-a).toNat = 0 := by omega
    rw [this]; simp
  · have : a.toNat = 0 := by omega
    rw [this]; simp
theorem sf_len {u d : Int} (h : Sf u d) (hd : 0 < d) : (twL (-(ce u d))).length ≤ 12 := by
  have := sf_step h hd
  have := twL_len (-(ce u d)) 12 (by omega)
  omega
theorem impl_faster_l0 (n : Nat) : ∀ (k : Nat) (m : List UInt8) (u d : Int), 1000010 + n ≤ k → Sf u d → 0 < d → d < n → m.length + 20 * n ≤ 100000 → impl_FasterOf.l0 k (ofL m) u d = some (ofL (m ++ fsL n u d), true) := by
  induction n with
  | zero => intro k m u d hk hs h0 h1; omega
  | succ n ih =>
    intro k m u d hk hs h0 h1 hm
    obtain ⟨k, rfl⟩ : ∃ j, k = j + 1 := ⟨k - 1, by omega⟩
    obtain ⟨c1, c2, c3, c4, c5, c6, c7, c8⟩ := sf_step hs h0
    have hu := hs.2
    have hl := sf_len hs h0
    simp only [impl_FasterOf.l0, fsL]
    by_cases hz : u = 0
    · rw [if_pos hz, if_pos hz]; simp
    · rw [if_neg hz, if_neg hz, if_pos h0, impl_ceiling_ev u d h0 (by omega) (by omega), Option.bind_some, w64 (by omega : -9223372036854775808 ≤ -(ce u d) ∧ _), twists_ev _ (by omega), Option.bind_some, if_pos (by rw [ofL_size, ofL_size]; omega), w64 (by omega : -9223372036854775808 ≤ ce u d * d ∧ _), w64 (by omega : -9223372036854775808 ≤ u - ce u d * d ∧ _), ofL_app]
      by_cases hz2 : u - ce u d * d = 0
      · rw [if_pos hz2, if_pos hz2]; simp
      · obtain ⟨d1, d2, d3, d4, d5⟩ := c8 hz2
        have eR : ofL (m ++ twL (-(ce u d))) ++ (⟨#[82]⟩ : ByteArray) = ofL (m ++ twL (-(ce u d)) ++ [82]) := ofL_app _ [82]
        rw [if_neg hz2, if_neg hz2, if_pos (by rw [ofL_size, List.length_append]; omega), impl_lowest_over k (by omega) c5, Option.bind_some, d1, d2, eR]
        dsimp only
        rw [ih k _ _ _ (by omega) d3 d4 (by omega) (by simp; omega)]
        simp
theorem impl_FasterOf_ev (k : Nat) (hk : 1000100 ≤ k) (u d : Int) : impl_FasterOf.f k u d = some (if Sf u d then (ofL (fsW u d), true) else (ofL [], false)) := by
  unfold impl_FasterOf.f
  rw [impl_isSmall_ev k (by omega) u d 12 (by omega)]
  have e0 : (⟨#[]⟩ : ByteArray) = ofL [] := rfl
  have eR : ofL [] ++ (⟨#[82]⟩ : ByteArray) = ofL [82] := ofL_app [] [82]
  rw [e0, Option.bind_some]
  simp only [decide_eq_true_eq]
  have es : (Fr u d ∧ -12 ≤ u ∧ u ≤ 12 ∧ d ≤ 12) ↔ Sf u d := Iff.rfl
  by_cases h : Sf u d
  · rw [if_pos (es.2 h), if_pos h]
    have hd := h.1.2.2.1
    unfold fsW
    by_cases h0 : d = 0
    · have hu1 := h.1.2.2.2.2.1 h0
      rw [if_pos h0]
      obtain ⟨k, rfl⟩ : ∃ j, k = j + 2 := ⟨k - 2, by omega⟩
      have ho : ovU u d = 0 ∧ ovD u = 1 := by unfold ovU ovD; rw [if_neg (by omega), if_neg (by omega)]; omega
      rw [impl_FasterOf.l0.eq_2, if_neg (by omega), if_neg (by omega), if_pos (by rw [ofL_size]; simp), impl_lowest_over (k + 1) (by omega) h.1, Option.bind_some, ho.1, ho.2, eR]
      dsimp only
      rw [impl_FasterOf.l0.eq_2, if_pos rfl]
    · rw [if_neg h0, impl_faster_l0 13 k [] u d (by omega) h (by omega) (by have := h.2.2.2; omega) (by simp)]
      simp
  · rw [if_neg (fun x => h (es.1 x)), if_neg h]
theorem spec_faster_l2 (x6 : Int) (hx : -1000 ≤ x6 ∧ x6 ≤ 1000) (u d : Int) (K : Nat) (m : List UInt8) (v : Option (ByteArray × Bool)) (hv : ∀ k, K ≤ k → ((spec_PlusOf.f k u d (-x6)).bind fun bt128 => (if bt128.1 = 0 then (spec_FasterOf.l0 k (ofL (m ++ List.replicate (-x6).toNat 84)) bt128.1 bt128.2.1) else ((spec_OverOf.f k bt128.1 bt128.2.1).bind fun bt131 => (if (ofL (m ++ List.replicate (-x6).toNat 84)).size + 1 ≤ 9223372036854775807 then (spec_FasterOf.l0 k ((ofL (m ++ List.replicate (-x6).toNat 84)) ++ (⟨#[82]⟩ : ByteArray)) bt131.1 bt131.2) else (none))))) = v) (hm : m.length ≤ 200000) (n : Nat) : ∀ (k j : Nat), K + n < k → j + n = (-x6).toNat → spec_FasterOf.l2 k (ofL (m ++ List.replicate j 84)) x6 (j : Int) u d = v := by
  induction n with
  | zero =>
    intro k j hk hj
    obtain ⟨k, rfl⟩ : ∃ q, k = q + 1 := ⟨k - 1, by omega⟩
    rw [spec_FasterOf.l2.eq_2, w64 (by omega), if_neg (by omega)]
    have : j = (-x6).toNat := by omega
    rw [this]
    exact hv k (by omega)
  | succ n ih =>
    intro k j hk hj
    obtain ⟨k, rfl⟩ : ∃ q, k = q + 1 := ⟨k - 1, by omega⟩
    have e : ofL (m ++ List.replicate j 84) ++ (⟨#[84]⟩ : ByteArray) = ofL (m ++ List.replicate (j + 1) 84) := by
      have := ofL_app (m ++ List.replicate j 84) [84]
      rw [List.append_assoc, ← List.replicate_succ'] at this
      exact this
    have e1 : (j : Int) + 1 = ((j + 1 : Nat) : Int) := by omega
    rw [spec_FasterOf.l2.eq_2, w64 (by omega), if_pos (by omega), if_pos (by rw [ofL_size]; simp; omega), w64 (by omega), e1, e]
    exact ih k (j + 1) (by omega) (by omega)
theorem spec_faster_l1 (x6 : Int) (hx : -1000 ≤ x6 ∧ x6 ≤ 1000) (u d : Int) (K : Nat) (m : List UInt8) (v : Option (ByteArray × Bool)) (hv : ∀ k, K ≤ k → spec_FasterOf.l2 k (ofL (m ++ List.replicate x6.toNat 116)) x6 0 u d = v) (hm : m.length ≤ 100000) (n : Nat) : ∀ (k j : Nat), K + n < k → j + n = x6.toNat → spec_FasterOf.l1 k (ofL (m ++ List.replicate j 116)) x6 (j : Int) u d = v := by
  induction n with
  | zero =>
    intro k j hk hj
    obtain ⟨k, rfl⟩ : ∃ q, k = q + 1 := ⟨k - 1, by omega⟩
    rw [spec_FasterOf.l1.eq_2, if_neg (by omega)]
    have : j = x6.toNat := by omega
    rw [this]
    exact hv k (by omega)
  | succ n ih =>
    intro k j hk hj
    obtain ⟨k, rfl⟩ : ∃ q, k = q + 1 := ⟨k - 1, by omega⟩
    have e : ofL (m ++ List.replicate j 116) ++ (⟨#[116]⟩ : ByteArray) = ofL (m ++ List.replicate (j + 1) 116) := by
      have := ofL_app (m ++ List.replicate j 116) [116]
      rw [List.append_assoc, ← List.replicate_succ'] at this
      exact this
    have e1 : (j : Int) + 1 = ((j + 1 : Nat) : Int) := by omega
    rw [spec_FasterOf.l1.eq_2, if_pos (by omega), if_pos (by rw [ofL_size]; simp; omega), w64 (by omega), e1, e]
    exact ih k (j + 1) (by omega) (by omega)
theorem spec_under_ev (u d : Int) (hd : 0 < d) (hb : d ≤ 1000) (hu : -1000 ≤ u ∧ u ≤ 1000) : spec_l3Under.f (wrap64 (-u)) d = some (-(ce u d)) := by
  unfold spec_l3Under.f
  have b := tdiv_le (-u) d
  have f := tdiv_facts (-u) d hd
  have w0 : wrap64 (-u) = -u := w64 (by omega)
  rw [w0]
  have w1 : wrap64 (Int.tdiv (-u) d) = Int.tdiv (-u) d := w64 (by omega)
  have pm := mulb (a := Int.tdiv (-u) d) (b := d) (by unfold Pt; omega) (by unfold Pt; omega)
  have w2 : wrap64 (Int.tdiv (-u) d * d) = Int.tdiv (-u) d * d := w64 (by omega)
  rw [if_neg (by omega), w1, w2]
  by_cases h : Int.tdiv (-u) d * d > -u
  · rw [if_pos h, w64 (by omega)]
    have : -(Int.tdiv (-u) d - 1) = ce u d := by
      refine ce_unique hd ?_ ?_ <;> rw [Int.neg_mul, Int.sub_mul, Int.one_mul]
      · have h' : -u < 0 := by
          rcases ltge (-u) 0 with x | x
          · exact x
          · have := f.1 x; omega
        have := f.2 h'
        omega
      · omega
    congr 1; omega
  · rw [if_neg h]
    have : -(Int.tdiv (-u) d) = ce u d := by
      refine ce_unique hd ?_ ?_ <;> rw [Int.neg_mul]
      · omega
      · rcases ltge (-u) 0 with x | x
        · have := f.2 x; omega
        · have := f.1 x; omega
    congr 1; omega
theorem spec_faster_l0 (n : Nat) : ∀ (k : Nat) (m : List UInt8) (u d : Int), 1000010 + 40 * n ≤ k → Sf u d → 0 < d → d < n → m.length + 20 * n ≤ 10000 → spec_FasterOf.l0 k (ofL m) u d = some (ofL (m ++ fsL n u d), true) := by
  induction n with
  | zero => intro k m u d hk hs h0 h1; omega
  | succ n ih =>
    intro k m u d hk hs h0 h1 hm
    obtain ⟨k, rfl⟩ : ∃ j, k = j + 1 := ⟨k - 1, by omega⟩
    obtain ⟨c1, c2, c3, c4, c5, c6, c7, c8⟩ := sf_step hs h0
    have hu := hs.2
    have hl := sf_len hs h0
    rw [spec_FasterOf.l0.eq_2]
    simp only [fsL]
    by_cases hz : u = 0
    · rw [if_pos hz, if_pos hz]; simp
    · rw [if_neg hz, if_neg hz, if_pos h0, spec_under_ev u d h0 (by omega) (by omega), Option.bind_some, Int.neg_neg, w64 (by omega : -9223372036854775808 ≤ ce u d ∧ _)]
      have em : m ++ List.replicate (ce u d).toNat 116 ++ List.replicate (-(ce u d)).toNat 84 = m ++ twL (-(ce u d)) := by rw [twL_neg, List.append_assoc]
      have hml : (m ++ List.replicate (ce u d).toNat 116).length ≤ 200000 := by simp; omega
      have st0 := spec_faster_l1 (ce u d) (by omega) u d (1000010 + 40 * n + 14) m (some (ofL (m ++ (twL (-(ce u d)) ++ (if u - ce u d * d = 0 then [] else 82 :: fsL n d (-(u - ce u d * d))))), true)) ?_ (by omega) (ce u d).toNat k 0 (by omega) (by omega)
      · have e00 : m ++ List.replicate 0 (116 : UInt8) = m := by simp
        rw [e00] at st0
        exact st0
      · intro k' hk'
        have st1 := spec_faster_l2 (ce u d) (by omega) u d (1000010 + 40 * n) (m ++ List.replicate (ce u d).toNat 116) (some (ofL (m ++ (twL (-(ce u d)) ++ (if u - ce u d * d = 0 then [] else 82 :: fsL n d (-(u - ce u d * d))))), true)) ?_ hml (-(ce u d)).toNat k' 0 (by omega) (by omega)
        · have e00 : m ++ List.replicate (ce u d).toNat 116 ++ List.replicate 0 (84 : UInt8) = m ++ List.replicate (ce u d).toNat 116 := by simp
          rw [e00] at st1
          exact st1
        · intro k2 hk2
          have hp : Fr u d ∧ Pt (-(ce u d)) := ⟨hs.1, by unfold Pt; omega⟩
          have ep : u + -(ce u d) * d = u - ce u d * d := by rw [Int.neg_mul]; omega
          rw [spec_PlusOf_ev k2 (by omega), if_pos hp, em]
          unfold pl
          rw [ep, if_pos c5, Option.bind_some]
          dsimp only
          by_cases hz2 : u - ce u d * d = 0
          · obtain ⟨k2, rfl⟩ : ∃ j, k2 = j + 1 := ⟨k2 - 1, by omega⟩
            rw [if_pos hz2, if_pos hz2, spec_FasterOf.l0.eq_2, if_pos hz2]; simp
          · obtain ⟨d1, d2, d3, d4, d5⟩ := c8 hz2
            have eR : ofL (m ++ twL (-(ce u d))) ++ (⟨#[82]⟩ : ByteArray) = ofL (m ++ twL (-(ce u d)) ++ [82]) := ofL_app _ [82]
            rw [if_neg hz2, if_neg hz2, spec_OverOf_ev k2 (by omega), if_pos c5, Option.bind_some, if_pos (by rw [ofL_size, List.length_append]; omega), d1, d2, eR]
            dsimp only
            rw [ih k2 _ _ _ (by omega) d3 d4 (by omega) (by simp; omega)]
            simp
theorem spec_FasterOf_ev (k : Nat) (hk : 1001000 ≤ k) (u d : Int) : spec_FasterOf.f k u d = some (if Sf u d then (ofL (fsW u d), true) else (ofL [], false)) := by
  unfold spec_FasterOf.f
  obtain ⟨k, rfl⟩ : ∃ j, k = j + 3 := ⟨k - 3, by omega⟩
  have e0 : (⟨#[]⟩ : ByteArray) = ofL [] := rfl
  have eR : ofL [] ++ (⟨#[82]⟩ : ByteArray) = ofL [82] := ofL_app [] [82]
  have jt : spec_FasterOf.j0 (k + 3) true u d = some (ofL [], false) := by rw [spec_FasterOf.j0.eq_2, if_pos rfl]; rfl
  rw [spec_FractionOk_ev (k + 3) (by omega), spec_l1In_ev, Option.bind_some, Option.bind_some]
  simp only [decide_eq_true_eq]
  by_cases h1 : Fr u d
  · rw [if_pos h1]
    by_cases h2 : -12 ≤ u ∧ u ≤ 12
    · rw [if_pos h2]
      by_cases h3 : d > 12
      · rw [decide_eq_true h3, jt, if_neg (by intro x; have := x.2.2.2; omega)]
      · have hs : Sf u d := ⟨h1, h2.1, h2.2, by omega⟩
        have hd := h1.2.2.1
        rw [decide_eq_false h3, if_pos hs, spec_FasterOf.j0.eq_2, if_neg (by simp), e0]
        unfold fsW
        by_cases h0 : d = 0
        · have hu1 := h1.2.2.2.2.1 h0
          have ho : ovU u d = 0 ∧ ovD u = 1 := by unfold ovU ovD; rw [if_neg (by omega), if_neg (by omega)]; omega
          rw [if_pos h0, spec_FasterOf.l0.eq_2, if_neg (by omega), if_neg (by omega), spec_OverOf_ev (k + 1) (by omega), if_pos h1, Option.bind_some, if_pos (by rw [ofL_size]; simp), ho.1, ho.2, eR]
          dsimp only
          rw [spec_FasterOf.l0.eq_2, if_pos rfl]
        · rw [if_neg h0, spec_faster_l0 13 (k + 2) [] u d (by omega) hs (by omega) (by omega) (by simp)]
          simp
    · rw [if_neg h2, jt, if_neg (fun x => h2 ⟨x.2.1, x.2.2.1⟩)]
  · rw [if_neg h1, jt, if_neg (fun x => h1 x.1)]
theorem FnExactFasterOf (u d : Int) (wu : (Lit.int .i64 u).wf = true) (wd : (Lit.int .i64 d).wf = true) : ∃ k, laws_FnExactFasterOf.f k u d = some true := by
  refine ⟨3000000, ?_⟩
  unfold laws_FnExactFasterOf.f
  simp only [laws_toFraction_ev, Option.bind_some]
  rw [spec_FasterOf_ev _ (by omega), impl_FasterOf_ev _ (by omega)]
  simp
end Go.Proofs.Ytpjiimlcdifneaa.Pure
