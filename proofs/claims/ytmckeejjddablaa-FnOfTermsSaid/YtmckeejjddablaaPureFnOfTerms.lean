/- The pure part of the law FnOfTerms: the printed law answers true at all codes. No conditions. -/
import Derived.Test.YtmckeejjddablaaCFnOfTerms
import Derived.OpenShut
namespace Go.Proofs.Ytmckeejjddablaa.Pure
open Go.RowKit Go.Proofs.Ytmckeejjddablaa.PFnOfTerms Go.Proofs.YtmckeejjddablaaW.PrintWords Go.Proofs.YtmckeejjddablaaW.PrintLast Go.Proofs.YtmckeejjddablaaW.PrintMore
set_option linter.unusedVariables false
set_option linter.unusedSimpArgs false
theorem st {P : Prop} [Decidable P] (h : P) : some true = some (decide P) := by simp [h]
theorem sf {P : Prop} [Decidable P] (h : ¬P) : some false = some (decide P) := by simp [h]
theorem sd {P Q : Prop} [Decidable P] [Decidable Q] (h : P ↔ Q) : some (decide P) = some (decide Q) := by simp [h]
theorem w64 {n : Int} (h : -9223372036854775808 ≤ n ∧ n ≤ 9223372036854775807) : wrap64 n = n := by unfold wrap64; omega
def Fr (u d : Int) : Prop := -1000000 ≤ u ∧ u ≤ 1000000 ∧ 0 ≤ d ∧ d ≤ 1000000 ∧ (d = 0 → u = 1) ∧ (Int.gcd u d = 1)
instance (u d : Int) : Decidable (Fr u d) := by unfold Fr; exact inferInstance
def Pt (n : Int) : Prop := -1000000 ≤ n ∧ n ≤ 1000000
instance (n : Int) : Decidable (Pt n) := by unfold Pt; exact inferInstance
theorem gcd_step (a b : Int) : Int.gcd b (Int.tmod a b) = Int.gcd a b := by
  unfold Int.gcd
  rw [Int.natAbs_tmod, Nat.gcd_comm a.natAbs b.natAbs, Nat.gcd_rec b.natAbs a.natAbs, Nat.gcd_comm]
theorem tmod_lt (a b : Int) (h : b ≠ 0) : (Int.tmod a b).natAbs < b.natAbs := by
  rw [Int.natAbs_tmod]
  exact Nat.mod_lt _ (by omega)
theorem tdiv_le (a b : Int) : (Int.tdiv a b).natAbs ≤ a.natAbs := by
  rw [Int.natAbs_tdiv]
  exact Nat.div_le_self _ _
theorem tdiv_w (a b : Int) (h : -1000000 ≤ a ∧ a ≤ 1000000) : wrap64 (Int.tdiv a b) = Int.tdiv a b := by
  have := tdiv_le a b
  exact w64 (by omega)
theorem gcd_le_pt (a b : Int) (ha : Pt a) (hb : Pt b) : (Int.gcd a b : Int) ≤ 1000000 := by
  unfold Pt at ha hb
  by_cases h : a = 0
  · subst h
    rw [Int.zero_gcd]
    omega
  · have := Int.gcd_le_natAbs_left b h
    omega
theorem gcd_pos (a b : Int) (h : ¬(a = 0 ∧ b = 0)) : 0 < Int.gcd a b := by
  rcases Nat.eq_zero_or_pos (Int.gcd a b) with h' | h'
  · exact absurd (Int.gcd_eq_zero_iff.mp h') h
  · exact h'
def sg (u d : Int) : Int := if d < 0 ∨ (d = 0 ∧ u < 0) then -(Int.gcd u d : Int) else (Int.gcd u d : Int)
def lowU (u d : Int) : Int := Int.tdiv u (sg u d)
def lowD (u d : Int) : Int := Int.tdiv d (sg u d)
theorem mulb {a b : Int} (ha : Pt a) (hb : Pt b) : -1000000000000 ≤ a * b ∧ a * b ≤ 1000000000000 := by
  unfold Pt at ha hb
  have h1 : a.natAbs ≤ 1000000 := by omega
  have h2 : b.natAbs ≤ 1000000 := by omega
  have := Nat.mul_le_mul h1 h2
  rw [← Int.natAbs_mul] at this
  omega
theorem wmul {a b : Int} (ha : Pt a) (hb : Pt b) : wrap64 (a * b) = a * b := by
  have := mulb ha hb
  exact w64 (by omega)
theorem Fr.pu {u d : Int} (h : Fr u d) : Pt u := ⟨h.1, h.2.1⟩
theorem Fr.pd {u d : Int} (h : Fr u d) : Pt d := by unfold Fr at h; unfold Pt; omega
theorem Fr.ne {u d : Int} (h : Fr u d) : ¬(-d = 0 ∧ u = 0) := by
  unfold Fr at h; omega
theorem Fr.wn {u d : Int} (h : Fr u d) : wrap64 (-d) = -d := by
  unfold Fr at h; exact w64 (by omega)
theorem Fr.pn {u d : Int} (h : Fr u d) : Pt (-d) := by
  unfold Fr at h; unfold Pt; omega
def ovU (u d : Int) : Int := if u ≤ 0 then d else -d
def ovD (u : Int) : Int := if u ≤ 0 then -u else u
theorem low_one {u d : Int} (h : Int.gcd u d = 1) : lowU u d = (if d < 0 ∨ (d = 0 ∧ u < 0) then -u else u) ∧ lowD u d = (if d < 0 ∨ (d = 0 ∧ u < 0) then -d else d) := by
  unfold lowU lowD sg
  rw [h]
  split
  · simp
  · simp
theorem low_over {u d : Int} (h : Fr u d) : lowU (-d) u = ovU u d ∧ lowD (-d) u = ovD u := by
  have hg : Int.gcd (-d) u = 1 := by rw [Int.neg_gcd, Int.gcd_comm]; exact h.2.2.2.2.2
  obtain ⟨e1, e2⟩ := low_one hg
  rw [e1, e2]
  unfold Fr at h
  unfold ovU ovD
  by_cases h1 : u < 0
  · rw [if_pos (Or.inl h1), if_pos (Or.inl h1), if_pos (by omega), if_pos (by omega)]; omega
  · by_cases h2 : u = 0
    · have : d = 1 ∨ d ≠ 1 := by omega
      have hd : 0 < d := by omega
      rw [if_pos (Or.inr ⟨h2, by omega⟩), if_pos (Or.inr ⟨h2, by omega⟩), if_pos (by omega), if_pos (by omega)]; omega
    · rw [if_neg (by omega), if_neg (by omega), if_neg (by omega), if_neg (by omega)]; omega
theorem Fr.over {u d : Int} (h : Fr u d) : Fr (ovU u d) (ovD u) := by
  have hn := h.ne
  have hg := h.2.2.2.2.2
  have hc : Int.gcd d u = 1 := by rw [Int.gcd_comm]; exact hg
  unfold Fr at h
  unfold ovU ovD
  by_cases h1 : u ≤ 0
  · rw [if_pos h1, if_pos h1]
    exact ⟨by omega, by omega, by omega, by omega, fun x => by
      have hu : u = 0 := by omega
      subst hu
      rw [Int.gcd_zero_right] at hc
      omega, by rw [Int.gcd_neg]; exact hc⟩
  · rw [if_neg h1, if_neg h1]
    exact ⟨by omega, by omega, by omega, by omega, by omega, by rw [Int.neg_gcd]; exact hc⟩
def pl (u d n : Int) : Int × Int × Bool := if Fr (u + n * d) d then (u + n * d, d, true) else (0, 0, false)
theorem wplus {u d n : Int} (hu : Pt u) (hd : Pt d) (hn : Pt n) : wrap64 (u + wrap64 (n * d)) = u + n * d := by
  have := mulb hn hd
  rw [wmul hn hd]
  unfold Pt at hu
  exact w64 (by omega)
theorem ltge (a b : Int) : a < b ∨ b ≤ a := by omega
def Ls (a b c d : Int) : Prop := Fr a b ∧ Fr c d ∧ 0 < b ∧ 0 < d ∧ a * d < c * b
instance (a b c d : Int) : Decidable (Ls a b c d) := by unfold Ls; exact inferInstance
def t2 (n : Int) : Bool := decide (2 ≤ n ∧ n ≤ 60)
def Tm (l : List Int) : Prop := 1 ≤ l.length ∧ l.length ≤ 60 ∧ -60 ≤ rd l 0 ∧ rd l 0 ≤ 60 ∧ (l.drop 1).all t2 = true
instance (l : List Int) : Decidable (Tm l) := by unfold Tm; exact inferInstance
theorem impl_isPart_ev (n : Int) : impl_isPart.f n = some (decide (Pt n)) := by
  unfold impl_isPart.f Pt
  split
  · exact sd (by omega)
  · exact sf (by omega)
theorem spec_l1In_ev (n a b : Int) : spec_l1In.f n a b = some (decide (a ≤ n ∧ n ≤ b)) := by
  unfold spec_l1In.f
  split
  · exact sd (by omega)
  · exact sf (by omega)
theorem impl_gcd_l0 (n : Nat) : ∀ (k : Nat) (a b : Int), b.natAbs ≤ n → n < k → a.natAbs ≤ 4611686018427387904 → b.natAbs ≤ 4611686018427387904 → impl_gcd.l0 k a b = some (Int.gcd a b : Int) := by
  induction n with
  | zero =>
    intro k a b hb hk ha _
    obtain ⟨k, rfl⟩ : ∃ m, k = m + 1 := ⟨k - 1, by omega⟩
    have hb0 : b = 0 := by omega
    simp only [impl_gcd.l0]
    rw [if_pos hb0, w64 (by omega), hb0, Int.gcd_zero_right]
    unfold mx; congr 1; split <;> omega
  | succ n ih =>
    intro k a b hb hk ha hb'
    obtain ⟨k, rfl⟩ : ∃ m, k = m + 1 := ⟨k - 1, by omega⟩
    simp only [impl_gcd.l0]
    by_cases h : b = 0
    · rw [if_pos h, w64 (by omega), h, Int.gcd_zero_right]
      unfold mx; congr 1; split <;> omega
    · rw [if_neg h]
      have := tmod_lt a b h
      rw [ih k b (Int.tmod a b) (by omega) (by omega) (by omega) (by omega), gcd_step]
theorem impl_gcd_ev (k : Nat) (hk : 1000002 ≤ k) (a b : Int) (ha : Pt a) (hb : Pt b) : impl_gcd.f k a b = some (Int.gcd a b : Int) := by
  unfold Pt at ha hb
  exact impl_gcd_l0 1000001 k a b (by omega) (by omega) (by omega) (by omega)
theorem spec_l1Common_l0 (n : Nat) : ∀ (k : Nat) (a b : Int), 0 ≤ a → 0 ≤ b → b.natAbs ≤ n → n < k → spec_l1Common.l0 k a b = some (Int.gcd a b : Int) := by
  induction n with
  | zero =>
    intro k a b ha hb0 hb hk
    obtain ⟨k, rfl⟩ : ∃ m, k = m + 1 := ⟨k - 1, by omega⟩
    have hb0 : b = 0 := by omega
    subst hb0
    simp only [spec_l1Common.l0]
    rw [if_neg (by omega), Int.gcd_zero_right]
    congr 1; omega
  | succ n ih =>
    intro k a b ha hb0 hb hk
    obtain ⟨k, rfl⟩ : ∃ m, k = m + 1 := ⟨k - 1, by omega⟩
    simp only [spec_l1Common.l0]
    by_cases h : b = 0
    · subst h
      rw [if_neg (by omega), Int.gcd_zero_right]
      congr 1; omega
    · rw [if_pos (by omega), if_neg h]
      have := tmod_lt a b h
      have h2 := Int.tmod_nonneg b ha
      rw [ih k b (Int.tmod a b) hb0 h2 (by omega) (by omega), gcd_step]
theorem mx_abs (a : Int) (h : Pt a) : mx a (wrap64 (-a)) = (a.natAbs : Int) := by
  unfold Pt at h
  rw [w64 (by omega)]
  unfold mx; split <;> omega
theorem spec_l1Common_ev (k : Nat) (hk : 1000002 ≤ k) (a b : Int) (ha : Pt a) (hb : Pt b) : spec_l1Common.f k a b = some (Int.gcd a b : Int) := by
  unfold spec_l1Common.f
  rw [mx_abs a ha, mx_abs b hb, spec_l1Common_l0 1000001 k _ _ (by omega) (by omega) (by unfold Pt at hb; omega) (by omega)]
  rfl
theorem impl_isFraction_ev (k : Nat) (hk : 1000002 ≤ k) (u d : Int) : impl_isFraction.f k u d = some (decide (Fr u d)) := by
  unfold impl_isFraction.f
  simp only [impl_isPart_ev, Option.bind_some, decide_eq_true_eq]
  by_cases hu : Pt u
  · rw [if_pos hu]
    by_cases h1 : d < 0
    · rw [if_pos h1]; exact sf (by intro h; unfold Fr at h; omega)
    · rw [if_neg h1]
      by_cases h2 : d > 1000000
      · rw [if_pos h2]; exact sf (by intro h; unfold Fr at h; omega)
      · rw [if_neg h2]
        have hd : Pt d := by unfold Pt; omega
        rw [impl_gcd_ev k hk u d hu hd]
        unfold Pt at hu
        have e : ((Int.gcd u d : Int) == 1) = decide (Int.gcd u d = 1) := by rw [Bool.eq_iff_iff]; simp; omega
        simp only [Option.bind_some, e]
        by_cases h3 : d = 0
        · rw [if_pos h3]
          by_cases h4 : u = 1
          · rw [if_pos h4]; exact sd (by unfold Fr; omega)
          · rw [if_neg h4]; exact sf (by intro h; unfold Fr at h; omega)
        · rw [if_neg h3]; exact sd (by unfold Fr; omega)
  · rw [if_neg hu]; exact sf (by intro h; unfold Fr at h; unfold Pt at hu; omega)
theorem impl_FractionOk_ev (k : Nat) (hk : 1000002 ≤ k) (u d : Int) : impl_FractionOk.f k u d = some (decide (Fr u d)) := by
  unfold impl_FractionOk.f
  rw [impl_isFraction_ev k hk]; rfl
theorem spec_FractionOk_ev (k : Nat) (hk : 1000002 ≤ k) (u d : Int) : spec_FractionOk.f k u d = some (decide (Fr u d)) := by
  unfold spec_FractionOk.f
  simp only [spec_l1In_ev, Option.bind_some, decide_eq_true_eq]
  by_cases hu : -1000000 ≤ u ∧ u ≤ 1000000
  · rw [if_pos hu]
    by_cases hd : 0 ≤ d ∧ d ≤ 1000000
    · rw [if_pos hd, spec_l1Common_ev k hk u d hu (by unfold Pt; omega)]
      simp only [Option.bind_some]
      by_cases h1 : (Int.gcd u d : Int) = 1
      · rw [if_pos h1]
        by_cases h3 : d > 0
        · rw [if_pos h3]; exact st (by unfold Fr; omega)
        · rw [if_neg h3]
          have e : (u == 1) = decide (u = 1) := by rw [Bool.eq_iff_iff]; simp
          rw [e]; exact sd (by unfold Fr; omega)
      · rw [if_neg h1]; exact sf (by intro h; unfold Fr at h; omega)
    · rw [if_neg hd]; exact sf (by intro h; unfold Fr at h; omega)
  · rw [if_neg hu]; exact sf (by intro h; unfold Fr at h; omega)
theorem impl_lowest_ev (k : Nat) (hk : 1000002 ≤ k) (u d : Int) (hu : Pt u) (hd : Pt d) (h : ¬(u = 0 ∧ d = 0)) : impl_lowest.f k u d = some (lowU u d, lowD u d) := by
  unfold impl_lowest.f
  rw [impl_gcd_ev k hk u d hu hd]
  simp only [Option.bind_some]
  have hg := gcd_pos u d h
  have hl := gcd_le_pt u d hu hd
  have e1 : wrap64 (-(Int.gcd u d : Int)) = -(Int.gcd u d : Int) := w64 (by omega)
  unfold lowU lowD sg
  rw [e1]
  simp only [tdiv_w _ _ hu, tdiv_w _ _ hd]
  by_cases h1 : d < 0
  · rw [if_pos h1, if_neg (by omega), if_pos (by omega)]
  · rw [if_neg h1]
    by_cases h2 : d = 0
    · rw [if_pos h2]
      by_cases h3 : u < 0
      · rw [if_pos h3, if_neg (by omega), if_pos (by omega)]
      · rw [if_neg h3, if_neg (by omega), if_neg (by omega)]
    · rw [if_neg h2, if_neg (by omega), if_neg (by omega)]
theorem impl_lowest_over (k : Nat) (hk : 1000002 ≤ k) {u d : Int} (h : Fr u d) : impl_lowest.f k (wrap64 (-d)) u = some (ovU u d, ovD u) := by
  rw [h.wn, impl_lowest_ev k hk _ _ h.pn h.pu h.ne, (low_over h).1, (low_over h).2]
theorem spec_LowestOf_ev (k : Nat) (hk : 1000003 ≤ k) (u d : Int) : spec_LowestOf.f k u d = some (if Pt u ∧ Pt d ∧ ¬(u = 0 ∧ d = 0) then (lowU u d, lowD u d, true) else (0, 0, false)) := by
  obtain ⟨k, rfl⟩ : ∃ m, k = m + 1 := ⟨k - 1, by omega⟩
  have jt : spec_LowestOf.j0 (k + 1) u d true = some (0, 0, false) := by simp only [spec_LowestOf.j0]; rw [if_pos trivial]
  have jf : Pt u → Pt d → ¬(u = 0 ∧ d = 0) → spec_LowestOf.j0 (k + 1) u d false = some (lowU u d, lowD u d, true) := by
    intro hu hd h
    simp only [spec_LowestOf.j0]
    rw [if_neg (by simp), spec_l1Common_ev k (by omega) u d hu hd]
    simp only [Option.bind_some]
    have hg := gcd_pos u d h
    have hl := gcd_le_pt u d hu hd
    have e1 : wrap64 (-(Int.gcd u d : Int)) = -(Int.gcd u d : Int) := w64 (by omega)
    unfold lowU lowD sg
    rw [e1]
    simp only [tdiv_w _ _ hu, tdiv_w _ _ hd]
    by_cases h1 : d < 0
    · rw [if_pos h1, if_neg (by omega), if_pos (by omega)]
    · rw [if_neg h1]
      by_cases h2 : d = 0
      · rw [if_pos h2]
        by_cases h3 : u < 0
        · rw [if_pos h3, if_neg (by omega), if_pos (by omega)]
        · rw [if_neg h3, if_neg (by omega), if_neg (by omega)]
      · rw [if_neg h2, if_neg (by omega), if_neg (by omega)]
  have pt : ∀ n : Int, (-1000000 ≤ n ∧ n ≤ 1000000) ↔ Pt n := fun n => Iff.rfl
  unfold spec_LowestOf.f
  simp only [spec_l1In_ev, Option.bind_some, decide_eq_true_eq, pt]
  by_cases hu : Pt u
  · rw [if_pos hu]
    by_cases hd : Pt d
    · rw [if_pos hd]
      by_cases h : u = 0 ∧ d = 0
      · rw [if_pos h.1, if_neg (fun x => x.2.2 h)]
        have : (d == 0) = true := by simpa using h.2
        rw [this]; exact jt
      · have hp : Pt u ∧ Pt d ∧ ¬(u = 0 ∧ d = 0) := ⟨hu, hd, h⟩
        rw [if_pos hp]
        by_cases h1 : u = 0
        · rw [if_pos h1]
          have : (d == 0) = false := by simpa using (by omega : ¬ d = 0)
          rw [this]; exact jf hu hd h
        · rw [if_neg h1]; exact jf hu hd h
    · rw [if_neg hd, if_neg (fun x => hd x.2.1)]; exact jt
  · rw [if_neg hu, if_neg (fun x => hu x.1)]; exact jt
theorem spec_TermsOk_l0 (l : List Int) (hn : l.length ≤ 1048576) (d : Nat) : ∀ (k : Nat) (i : Int), 0 ≤ i → i + d = l.length → d < k → spec_TermsOk.l0 k l i = some (decide (1 ≤ l.length ∧ l.length ≤ 60 ∧ -60 ≤ rd l 0 ∧ rd l 0 ≤ 60 ∧ (l.drop i.toNat).all t2 = true)) := by
  induction d with
  | zero =>
    intro k i h0 hd hk
    obtain ⟨k, rfl⟩ : ∃ m, k = m + 1 := ⟨k - 1, by omega⟩
    simp only [spec_TermsOk.l0]
    rw [if_neg (by omega), List.drop_eq_nil_of_le (by omega)]
    simp only [spec_l1In_ev, Option.bind_some, decide_eq_true_eq]
    by_cases h : 1 ≤ (l.length : Int) ∧ (l.length : Int) ≤ 60
    · rw [if_pos h, if_pos (by omega)]; exact sd (by simp; omega)
    · rw [if_neg h]; exact sf (by intro x; omega)
  | succ d ih =>
    intro k i h0 hd hk
    obtain ⟨k, rfl⟩ : ∃ m, k = m + 1 := ⟨k - 1, by omega⟩
    simp only [spec_TermsOk.l0]
    have h1 : i.toNat < l.length := by omega
    rw [if_pos (by omega), if_pos h0, w64 (by omega), ih k (i + 1) (by omega) (by omega) (by omega)]
    have e : (i + 1).toNat = i.toNat + 1 := by omega
    have ra : rd l i = l[i.toNat] := by unfold rd; simp [h1]
    rw [e, ra, List.drop_eq_getElem_cons h1]
    simp only [spec_l1In_ev, Option.bind_some, decide_eq_true_eq, List.all_cons, Bool.and_eq_true]
    by_cases hc : 2 ≤ l[i.toNat] ∧ l[i.toNat] ≤ 60
    · rw [if_pos hc]
      have : t2 l[i.toNat] = true := by unfold t2; simpa using hc
      exact sd (by simp [this])
    · rw [if_neg hc]
      have : ¬ t2 l[i.toNat] = true := by unfold t2; simpa using hc
      exact sf (by intro x; exact this x.2.2.2.2.1)
theorem spec_TermsOk_ev (k : Nat) (l : List Int) (hk : l.length + 1 < k) (hn : l.length ≤ 1048576) : spec_TermsOk.f k l = some (decide (Tm l)) := by
  unfold spec_TermsOk.f
  by_cases h : l.length = 0
  · obtain ⟨k, rfl⟩ : ∃ m, k = m + 1 := ⟨k - 1, by omega⟩
    simp only [spec_TermsOk.l0]
    rw [if_neg (by omega), spec_l1In_ev]
    simp only [Option.bind_some, decide_eq_true_eq]
    rw [if_neg (by omega)]
    exact sf (by unfold Tm; omega)
  · rw [spec_TermsOk_l0 l hn (l.length - 1) k 1 (by omega) (by omega) (by omega)]
    exact sd (by unfold Tm; exact Iff.rfl)
theorem impl_areTerms_l0 (l : List Int) (hn : l.length ≤ 1048576) (d : Nat) : ∀ (k : Nat) (i : Int), 1 ≤ i → i + d = l.length → d < k → impl_areTerms.l0 k l l (l.length : Int) i = some (decide (1 ≤ l.length ∧ l.length ≤ 60 ∧ (l.drop i.toNat).all t2 = true)) := by
  induction d with
  | zero =>
    intro k i h0 hd hk
    obtain ⟨k, rfl⟩ : ∃ m, k = m + 1 := ⟨k - 1, by omega⟩
    simp only [impl_areTerms.l0]
    rw [if_neg (by omega), List.drop_eq_nil_of_le (by omega)]
    rw [if_pos (by omega)]; exact sd (by simp; omega)
  | succ d ih =>
    intro k i h0 hd hk
    obtain ⟨k, rfl⟩ : ∃ m, k = m + 1 := ⟨k - 1, by omega⟩
    simp only [impl_areTerms.l0]
    have h1 : i.toNat < l.length := by omega
    rw [if_pos (by omega), if_pos (by omega), if_pos (by omega), w64 (by omega), ih k (i + 1) (by omega) (by omega) (by omega)]
    have e : (i + 1).toNat = i.toNat + 1 := by omega
    have ra : rd l i = l[i.toNat] := by unfold rd; simp [h1]
    rw [e, ra, List.drop_eq_getElem_cons h1, if_neg (by omega : ¬ i = 0), if_pos (by omega : i > 0)]
    simp only [List.all_cons, Bool.and_eq_true]
    by_cases hc : l[i.toNat] > 60
    · rw [if_pos hc]
      have : ¬ t2 l[i.toNat] = true := by intro x; have := of_decide_eq_true x; omega
      exact sf (by intro x; exact this x.2.2.1)
    · rw [if_neg hc]
      by_cases hc' : l[i.toNat] < 2
      · rw [if_pos hc']
        have : ¬ t2 l[i.toNat] = true := by intro x; have := of_decide_eq_true x; omega
        exact sf (by intro x; exact this x.2.2.1)
      · rw [if_neg hc']
        have : t2 l[i.toNat] = true := decide_eq_true (by omega)
        exact sd (by simp [this])
theorem impl_areTerms_ev (k : Nat) (l : List Int) (hk : l.length + 1 < k) (hn : l.length ≤ 1048576) : impl_areTerms.f k l = some (decide (Tm l)) := by
  unfold impl_areTerms.f
  obtain ⟨k, rfl⟩ : ∃ m, k = m + 1 := ⟨k - 1, by omega⟩
  simp only [impl_areTerms.l0]
  by_cases h : l.length = 0
  · rw [if_neg (by omega), if_neg (by omega)]
    exact sf (by unfold Tm; omega)
  · rw [if_pos (by omega), if_pos (by omega), if_pos (by omega), w64 (by omega), impl_areTerms_l0 l hn (l.length - 1) k _ (by omega) (by omega) (by omega)]
    by_cases h1 : rd l 0 > 60
    · rw [if_pos h1]; exact sf (by unfold Tm; omega)
    · rw [if_neg h1, if_pos trivial]
      by_cases h2 : rd l 0 < -60
      · rw [if_pos h2]; exact sf (by unfold Tm; omega)
      · rw [if_neg h2, if_neg (by omega : ¬ (0 : Int) > 0)]
        have e : (0 + 1 : Int).toNat = 1 := rfl
        exact sd (by unfold Tm; rw [e]; constructor <;> (intro x; refine ⟨?_, ?_, ?_⟩ <;> simp_all <;> omega))
theorem impl_LessOk_ev (k : Nat) (hk : 1000002 ≤ k) (a b c d : Int) : impl_LessOk.f k a b c d = some (decide (Ls a b c d)) := by
  unfold impl_LessOk.f
  simp only [impl_isFraction_ev k hk, Option.bind_some, decide_eq_true_eq]
  by_cases h1 : Fr a b
  · rw [if_pos h1]
    by_cases h2 : Fr c d
    · rw [if_pos h2, wmul h1.pu h2.pd, wmul h2.pu h1.pd]
      by_cases h3 : b > 0
      · rw [if_pos h3]
        by_cases h4 : d > 0
        · rw [if_pos h4]; exact sd ⟨fun x => ⟨h1, h2, h3, h4, x⟩, fun x => x.2.2.2.2⟩
        · rw [if_neg h4]; exact sf (fun x => h4 x.2.2.2.1)
      · rw [if_neg h3]; exact sf (fun x => h3 x.2.2.1)
    · rw [if_neg h2]; exact sf (fun x => h2 x.2.1)
  · rw [if_neg h1]; exact sf (fun x => h1 x.1)
theorem spec_OverOf_ev (k : Nat) (hk : 1000003 ≤ k) (u d : Int) : spec_OverOf.f k u d = some (if Fr u d then (ovU u d, ovD u) else (0, 0)) := by
  unfold spec_OverOf.f
  simp only [spec_FractionOk_ev k (by omega), Option.bind_some, decide_eq_true_eq]
  by_cases h : Fr u d
  · rw [if_pos h, if_pos h, h.wn, spec_LowestOf_ev k hk, if_pos ⟨h.pn, h.pu, h.ne⟩]
    simp only [Option.bind_some, (low_over h).1, (low_over h).2]
  · rw [if_neg h, if_neg h]
theorem spec_PlusOf_ev (k : Nat) (hk : 1000002 ≤ k) (u d n : Int) : spec_PlusOf.f k u d n = some (if Fr u d ∧ Pt n then pl u d n else (0, 0, false)) := by
  have pt : ∀ n : Int, (-1000000 ≤ n ∧ n ≤ 1000000) ↔ Pt n := fun n => Iff.rfl
  unfold spec_PlusOf.f
  simp only [spec_FractionOk_ev k hk, spec_l1In_ev, Option.bind_some, decide_eq_true_eq, pt]
  by_cases h : Fr u d
  · rw [if_pos h]
    by_cases hn : Pt n
    · have hp : Fr u d ∧ Pt n := ⟨h, hn⟩
      rw [if_pos hn, if_pos hp, wplus h.pu h.pd hn]
      unfold pl
      split <;> rfl
    · rw [if_neg hn, if_neg (fun x => hn x.2)]
  · rw [if_neg h, if_neg (fun x => h x.1)]
theorem impl_plus_ev (k : Nat) (hk : 1000002 ≤ k) (u d n : Int) (h : Fr u d) (hn : Pt n) : impl_plus.f k u d n = some (pl u d n) := by
  unfold impl_plus.f
  rw [wplus h.pu h.pd hn, impl_isFraction_ev k hk]
  unfold pl
  simp only [Option.bind_some, decide_eq_true_eq]
  split <;> rfl
def Bs (l : List Int) : Prop := l.length ≤ 2000 ∧ ∀ i, 0 ≤ rd l i ∧ rd l i ≤ 255
theorem xor_nn (a b : Int) (ha : 0 ≤ a ∧ a ≤ 4611686018427387903) (hb : 0 ≤ b ∧ b ≤ 4611686018427387903) : 0 ≤ Go.bits .xor .i64 a b := by
  obtain ⟨m, rfl⟩ : ∃ m : Nat, a = m := ⟨a.toNat, by omega⟩
  obtain ⟨n, rfl⟩ : ∃ m : Nat, b = m := ⟨b.toNat, by omega⟩
  have hm : m < 2 ^ 62 := by omega
  have hn : n < 2 ^ 62 := by omega
  have hx := Nat.xor_lt_two_pow hm hn
  have e1 : m % 2 ^ IntKind.i64.bits = m := Nat.mod_eq_of_lt (Nat.lt_trans hm (by decide))
  have e2 : n % 2 ^ IntKind.i64.bits = n := Nat.mod_eq_of_lt (Nat.lt_trans hn (by decide))
  simp only [Go.bits, BitVec.ofInt_natCast, BitVec.toNat_xor, BitVec.toNat_ofNat, e1, e2]
  have e3 := IntKind.wrap_i64 ((m ^^^ n : Nat) : Int)
  rw [e3]
  omega
theorem tmod_rng (a n : Int) (ha : 0 ≤ a) (hn : 1 ≤ n) : 0 ≤ Int.tmod a n ∧ Int.tmod a n < n := ⟨Int.tmod_nonneg n ha, Int.tmod_lt_of_pos a (by omega)⟩
theorem pick_ev (k : Nat) (hk : 1 ≤ k) (l : List Int) (hl : Bs l) (p n : Int) (hp : 0 ≤ p ∧ p ≤ 1000000) (hn : n ≤ 10000000) :
    ∃ r, spec_l20Rd_pick.f k l p n = some (r, p + 1) ∧ 0 ≤ r ∧ (1 ≤ n → r < n) ∧ (n < 1 → r = 0) := by
  obtain ⟨k, rfl⟩ : ∃ m, k = m + 1 := ⟨k - 1, by omega⟩
  unfold spec_l20Rd_pick.f
  have e0 : wrap64 (p + 1) = p + 1 := w64 (by omega)
  have e1 : wrap64 (p + 1 - 1) = p := by rw [w64 (by omega)]; omega
  rw [e0]
  by_cases h1 : n < 1
  · rw [if_pos h1]
    simp only [spec_l20Rd_pick.j0]
    rw [if_pos trivial]
    exact ⟨0, rfl, by omega, by omega, fun _ => rfl⟩
  · rw [if_neg h1]
    simp only [spec_l20Rd_pick.j0]
    by_cases h2 : (l.length : Int) = 0
    · rw [if_pos (by simpa using h2)]
      exact ⟨0, rfl, by omega, by omega, fun _ => rfl⟩
    · rw [if_neg (by simpa using h2), e1]
      have hn0 : ¬ n = 0 := by omega
      by_cases h3 : p < (l.length : Int)
      · rw [if_pos h3, if_pos hp.1, if_neg hn0]
        have hr := hl.2 p
        rw [w64 (by omega : -9223372036854775808 ≤ rd l p ∧ _)]
        have := tmod_rng (rd l p) n (by omega) (by omega)
        exact ⟨_, rfl, this.1, fun _ => this.2, by omega⟩
      · rw [if_neg h3, if_neg h2]
        have t1 := tmod_rng p (l.length : Int) hp.1 (by omega)
        have e7 : wrap64 (wrap64 (p * 7) + 3) = p * 7 + 3 := by rw [w64 (by omega : -9223372036854775808 ≤ p * 7 ∧ _), w64 (by omega)]
        rw [e7]
        have t2 := tmod_rng (p * 7 + 3) (l.length : Int) (by omega) (by omega)
        rw [if_pos t1.1, if_pos t1.2, if_pos t2.1, if_pos t2.2, if_neg hn0]
        have r1 := hl.2 (Int.tmod p (l.length : Int))
        have r2 := hl.2 (Int.tmod (p * 7 + 3) (l.length : Int))
        generalize rd l (Int.tmod p (l.length : Int)) = a at r1 ⊢
        generalize rd l (Int.tmod (p * 7 + 3) (l.length : Int)) = b at r2 ⊢
        have q0 := tdiv_le p (l.length : Int)
        have q1 : 0 ≤ Int.tdiv p (l.length : Int) := Int.tdiv_nonneg hp.1 (by omega)
        generalize Int.tdiv p (l.length : Int) = q at q0 q1 ⊢
        have e2 : wrap64 a = a := w64 (by omega)
        have e3 : wrap64 b = b := w64 (by omega)
        have e4 : wrap64 q = q := w64 (by omega)
        rw [e2, e3, e4]
        have e5 : wrap64 (a * 131) = a * 131 := w64 (by omega)
        have e6 : wrap64 (b * 1117) = b * 1117 := w64 (by omega)
        have e8 : wrap64 (q * 53) = q * 53 := w64 (by omega)
        have e9 : wrap64 (p * 29) = p * 29 := w64 (by omega)
        rw [e5, e6, e8, e9]
        have e10 : wrap64 (a * 131 + b * 1117) = a * 131 + b * 1117 := w64 (by omega)
        rw [e10]
        have e11 : wrap64 (a * 131 + b * 1117 + p * 29) = a * 131 + b * 1117 + p * 29 := w64 (by omega)
        rw [e11]
        have e12 : wrap64 (a * 131 + b * 1117 + p * 29 + q * 53) = a * 131 + b * 1117 + p * 29 + q * 53 := w64 (by omega)
        rw [e12]
        have hX : 0 ≤ a * 131 + b * 1117 + p * 29 + q * 53 ∧ a * 131 + b * 1117 + p * 29 + q * 53 ≤ 4611686018427387903 := by omega
        generalize a * 131 + b * 1117 + p * 29 + q * 53 = X at hX ⊢
        have q2 := tdiv_le X 64
        have q3 : 0 ≤ Int.tdiv X 64 := Int.tdiv_nonneg hX.1 (by omega)
        have e13 : wrap64 (Int.tdiv X 64) = Int.tdiv X 64 := w64 (by omega)
        rw [e13]
        have := tmod_rng _ n (xor_nn X (Int.tdiv X 64) hX (by omega)) (by omega)
        exact ⟨_, rfl, this.1, fun _ => this.2, by omega⟩
theorem odd_ev (k : Nat) (hk : 1 ≤ k) (l : List Int) (hl : Bs l) (p n : Int) (hp : 0 ≤ p ∧ p ≤ 1000000) (hn : n ≤ 10000000) :
    ∃ b p', spec_l20Rd_odd.f k l p n = some (b, p') ∧ p ≤ p' ∧ p' ≤ p + 1 := by
  unfold spec_l20Rd_odd.f
  by_cases h : n > 0
  · rw [if_pos h]
    obtain ⟨r, e, _⟩ := pick_ev k hk l hl p n hp hn
    rw [e]
    exact ⟨_, _, rfl, by omega, by omega⟩
  · rw [if_neg h]; exact ⟨_, _, rfl, by omega, by omega⟩
theorem open_ev (l : List Int) (hw : ∀ x ∈ l, (Lit.int .u8 x).wf = true) : ∃ m, spec_l20Open.f l = some (m, 0) ∧ Bs m := by
  have key : ∀ m : List Int, m.length ≤ 2000 → (∀ x ∈ m, x ∈ l) → Bs m := by
    intro m hm hs
    refine ⟨hm, fun i => ?_⟩
    unfold rd
    by_cases h : i.toNat < m.length
    · have : m.getD i.toNat 0 = m[i.toNat] := by simp [h]
      rw [this]
      have h1 := hw _ (hs _ (List.getElem_mem h))
      simp [Lit.wf, IntKind.min, IntKind.max, IntKind.signed, IntKind.bits] at h1
      omega
    · have : m.getD i.toNat 0 = 0 := by simp [Nat.le_of_not_lt h]
      rw [this]; omega
  unfold spec_l20Open.f
  by_cases h : (l.length : Int) > 2000
  · rw [if_pos h, if_pos (by omega)]
    exact ⟨_, rfl, key _ (by simp; omega) (fun x hx => List.mem_of_mem_take hx)⟩
  · rw [if_neg h]
    exact ⟨_, rfl, key _ (by omega) (fun x hx => hx)⟩
def Bd (n : Int) : Prop := -2000000 ≤ n ∧ n ≤ 2000000
theorem low_bd {u d : Int} (hu : Pt u) (hd : Pt d) : Bd (lowU u d) ∧ Bd (lowD u d) := by
  have h1 := tdiv_le u (sg u d)
  have h2 := tdiv_le d (sg u d)
  unfold Pt at hu hd
  unfold Bd lowU lowD
  omega
theorem fraction_ev (k : Nat) (hk : 1000004 ≤ k) (l : List Int) (hl : Bs l) (p n : Int) (hp : 0 ≤ p ∧ p ≤ 900000) (hn : n ≤ 10000000) :
    ∃ u d p', spec_l20Fraction.f k l p n = some (u, d, p') ∧ p ≤ p' ∧ p' ≤ p + 10 ∧ Bd u ∧ Bd d := by
  have j : ∀ (k : Nat) (p u d : Int), 2 ≤ k → 0 ≤ p → p ≤ 900010 → Bd u → Bd d → ∃ u' d' p', spec_l20Fraction.j0 k n l p u d = some (u', d', p') ∧ p ≤ p' ∧ p' ≤ p + 2 ∧ Bd u' ∧ Bd d' := by
    intro k p u d hk h0 h1 hu hd
    obtain ⟨k, rfl⟩ : ∃ m, k = m + 1 := ⟨k - 1, by omega⟩
    simp only [spec_l20Fraction.j0]
    obtain ⟨b, p', e, h2, h3⟩ := odd_ev k (by omega) l hl p n (by omega) hn
    rw [e]
    simp only [Option.bind_some]
    by_cases hb : b = true
    · rw [if_pos hb]
      obtain ⟨r, e2, h4, h5, _⟩ := pick_ev k (by omega) l hl p' 5 (by omega) (by omega)
      rw [e2]
      simp only [Option.bind_some]
      have h6 := h5 (by omega)
      rw [if_pos h4, if_pos (by simp only [List.length_cons, List.length_nil]; omega)]
      refine ⟨_, _, _, rfl, by omega, by omega, ?_⟩
      have : r = 0 ∨ r = 1 ∨ r = 2 ∨ r = 3 ∨ r = 4 := by omega
      unfold Bd
      rcases this with rfl | rfl | rfl | rfl | rfl <;> decide
    · rw [if_neg hb]
      exact ⟨_, _, _, rfl, by omega, by omega, hu, hd⟩
  unfold spec_l20Fraction.f
  simp only [Option.bind_some]
  obtain ⟨r, e1, h1, h2, _⟩ := pick_ev k (by omega) l hl p 4 (by omega) (by omega)
  rw [e1]
  simp only [Option.bind_some]
  have h3 := h2 (by omega)
  rw [if_pos h1, if_pos (by simp only [List.length_cons, List.length_nil]; omega)]
  have hh : 1 ≤ rd [4, 10, 50, 1000] r ∧ rd [4, 10, 50, 1000] r ≤ 1000 := by
    have : r = 0 ∨ r = 1 ∨ r = 2 ∨ r = 3 := by omega
    rcases this with rfl | rfl | rfl | rfl <;> decide
  generalize rd [4, 10, 50, 1000] r = hi at hh ⊢
  obtain ⟨a, e2, a1, a2, _⟩ := pick_ev k (by omega) l hl (p + 1) hi (by omega) (by omega)
  rw [e2]
  simp only [Option.bind_some]
  obtain ⟨b, e3, b1, b2, _⟩ := pick_ev k (by omega) l hl (p + 1 + 1) hi (by omega) (by omega)
  rw [e3]
  simp only [Option.bind_some]
  obtain ⟨c, e4, c1, c2, _⟩ := pick_ev k (by omega) l hl (p + 1 + 1 + 1) hi (by omega) (by omega)
  rw [e4]
  simp only [Option.bind_some]
  have a3 := a2 (by omega)
  have b3 := b2 (by omega)
  have c3 := c2 (by omega)
  rw [w64 (by omega), spec_LowestOf_ev k (by omega)]
  simp only [Option.bind_some]
  by_cases hz : Pt (a - b) ∧ Pt c ∧ ¬(a - b = 0 ∧ c = 0)
  · rw [if_pos hz, if_pos rfl]
    obtain ⟨u, d, p', e, q1, q2, q3⟩ := j k (p + 1 + 1 + 1 + 1) _ _ (by omega) (by omega) (by omega) (low_bd hz.1 hz.2.1).1 (low_bd hz.1 hz.2.1).2
    exact ⟨u, d, p', e, by omega, by omega, q3⟩
  · rw [if_neg hz, if_neg (by simp)]
    obtain ⟨u, d, p', e, q1, q2, q3⟩ := j k (p + 1 + 1 + 1 + 1) 1 0 (by omega) (by omega) (by omega) (by unfold Bd; omega) (by unfold Bd; omega)
    exact ⟨u, d, p', e, by omega, by omega, q3⟩
theorem alive_ev (k : Nat) (hk : 1000002 ≤ k) : laws_alive.f k = some true := by
  unfold laws_alive.f
  simp only [impl_FractionOk_ev k hk, Option.bind_some]
  decide
theorem laws_sameInts_l0 (a b : List Int) (hl : a.length = b.length) (hn : a.length ≤ 1048576) (d : Nat) : ∀ (k : Nat) (i : Int), 0 ≤ i → i + d = a.length → d < k → laws_sameInts.l0 k a b i = some (decide (a.drop i.toNat = b.drop i.toNat)) := by
  induction d with
  | zero =>
    intro k i h0 hd hk
    obtain ⟨k, rfl⟩ : ∃ m, k = m + 1 := ⟨k - 1, by omega⟩
    simp only [laws_sameInts.l0]
    rw [if_neg (by omega)]
    refine st ?_
    rw [List.drop_eq_nil_of_le (by omega), List.drop_eq_nil_of_le (by omega)]
  | succ d ih =>
    intro k i h0 hd hk
    obtain ⟨k, rfl⟩ : ∃ m, k = m + 1 := ⟨k - 1, by omega⟩
    simp only [laws_sameInts.l0]
    have h1 : i.toNat < a.length := by omega
    have h2 : i.toNat < b.length := by omega
    rw [if_pos (by omega), if_pos h0, if_pos (by omega), w64 (by omega), ih k (i + 1) (by omega) (by omega) (by omega)]
    have e : (i + 1).toNat = i.toNat + 1 := by omega
    have ra : rd a i = a[i.toNat] := by unfold rd; simp [h1]
    have rb : rd b i = b[i.toNat] := by unfold rd; simp [h2]
    rw [e, ra, rb, List.drop_eq_getElem_cons h1, List.drop_eq_getElem_cons h2]
    by_cases hc : a[i.toNat] = b[i.toNat]
    · rw [if_pos hc]; exact sd (by rw [List.cons.injEq]; exact ⟨fun h => ⟨hc, h⟩, And.right⟩)
    · rw [if_neg hc]; exact sf (by rw [List.cons.injEq]; exact fun h => hc h.1)
theorem laws_sameInts_ev (k : Nat) (a b : List Int) (hk : a.length < k) (hn : a.length ≤ 1048576) : laws_sameInts.f k a b = some (decide (a = b)) := by
  unfold laws_sameInts.f
  by_cases h : a.length = b.length
  · rw [if_pos (by omega), laws_sameInts_l0 a b h hn a.length k 0 (by omega) (by omega) hk]; simp
  · rw [if_neg (by omega)]; exact sf (fun e => h (by rw [e]))
theorem impl_isSmall_ev (k : Nat) (hk : 1000002 ≤ k) (u d n : Int) (hn : 0 ≤ n ∧ n ≤ 1000000) : impl_isSmall.f k u d n = some (decide (Fr u d ∧ -n ≤ u ∧ u ≤ n ∧ d ≤ n)) := by
  unfold impl_isSmall.f
  rw [impl_isFraction_ev k hk, w64 (by omega)]
  simp only [Option.bind_some, decide_eq_true_eq]
  by_cases h : Fr u d
  · rw [if_pos h]
    by_cases h1 : u ≥ -n
    · rw [if_pos h1]
      by_cases h2 : u ≤ n
      · rw [if_pos h2]; exact sd ⟨fun x => ⟨h, h1, h2, x⟩, fun x => x.2.2.2⟩
      · rw [if_neg h2]; exact sf (fun x => h2 x.2.2.1)
    · rw [if_neg h1]; exact sf (fun x => h1 x.2.1)
  · rw [if_neg h]; exact sf (fun x => h x.1)
theorem terms_ev (k : Nat) (l : List Int) (hl : Bs l) (p n : Int) (hk : 20 ≤ k) (hp : 0 ≤ p ∧ p ≤ 900000) (hn : n ≤ 10000000) :
    ∃ m p', spec_l20Terms.f k l p n = some (m, p') ∧ m.length ≤ 100 := by
  have j : ∀ (d : Nat) (k : Nat) (m : List Int) (p : Int), d + 2 < k → 0 ≤ p → p + d ≤ 901010 → 0 < m.length → m.length + d ≤ 90 → ∃ t p', spec_l20Terms.l0 k n m (d : Int) l p = some (t, p') ∧ t.length ≤ 100 := by
    intro d
    induction d with
    | zero =>
      intro k m p hk h0 h1 h2 h3
      obtain ⟨k, rfl⟩ : ∃ m, k = m + 1 := ⟨k - 1, by omega⟩
      simp only [spec_l20Terms.l0]
      rw [if_neg (by omega)]
      obtain ⟨b, p', e, q2, q3⟩ := odd_ev k (by omega) l hl p n (by omega) hn
      rw [e]
      simp only [Option.bind_some]
      by_cases hb : b = true
      · rw [if_pos hb]
        obtain ⟨r, e2, h4, h5, _⟩ := pick_ev k (by omega) l hl p' 3 (by omega) (by omega)
        rw [e2]
        simp only [Option.bind_some]
        by_cases c1 : r = 0
        · rw [if_pos c1]; exact ⟨_, _, rfl, by simp⟩
        · rw [if_neg c1]
          by_cases c2 : r = 1
          · rw [if_pos c2, if_pos (by omega)]; exact ⟨_, _, rfl, by simp; omega⟩
          · rw [if_neg c2, if_pos (by omega)]; exact ⟨_, _, rfl, by simp; omega⟩
      · rw [if_neg hb]; exact ⟨_, _, rfl, by omega⟩
    | succ d ih =>
      intro k m p hk h0 h1 h2 h3
      obtain ⟨k, rfl⟩ : ∃ m, k = m + 1 := ⟨k - 1, by omega⟩
      simp only [spec_l20Terms.l0]
      rw [if_pos (by omega)]
      obtain ⟨r, e2, h4, h5, _⟩ := pick_ev k (by omega) l hl p 3 (by omega) (by omega)
      rw [e2]
      simp only [Option.bind_some]
      rw [if_pos (by omega), w64 (by omega : -9223372036854775808 ≤ ((d + 1 : Nat) : Int) - 1 ∧ _)]
      have e3 : ((d + 1 : Nat) : Int) - 1 = (d : Int) := by omega
      rw [e3]
      exact ih k _ (p + 1) (by omega) (by omega) (by omega) (by simp) (by simp; omega)
  unfold spec_l20Terms.f
  obtain ⟨a, e1, a1, a2, _⟩ := pick_ev k (by omega) l hl p 7 (by omega) (by omega)
  rw [e1]
  simp only [Option.bind_some]
  obtain ⟨b, e2, b1, b2, _⟩ := pick_ev k (by omega) l hl (p + 1) 7 (by omega) (by omega)
  rw [e2]
  simp only [Option.bind_some]
  have b3 := b2 (by omega)
  obtain ⟨d, rfl⟩ : ∃ d : Nat, b = d := ⟨b.toNat, by omega⟩
  exact j d k _ (p + 1 + 1) (by omega) (by omega) (by omega) (by simp) (by simp; omega)
def ce (u d : Int) : Int := -((-u) / d)
theorem ce_spec {u d : Int} (hd : 0 < d) : 0 ≤ ce u d * d - u ∧ ce u d * d - u < d := by
  have h1 := Int.emod_nonneg (-u) (show d ≠ 0 by omega)
  have h2 := Int.emod_lt_of_pos (-u) hd
  have h3 := Int.mul_ediv_add_emod (-u) d
  unfold ce
  rw [Int.neg_mul, Int.mul_comm]
  omega
theorem ce_unique {u d c : Int} (hd : 0 < d) (h0 : 0 ≤ c * d - u) (h1 : c * d - u < d) : c = ce u d := by
  have h2 := ce_spec (u := u) hd
  rcases ltge c (ce u d) with h | h
  · have : (c + 1) * d ≤ ce u d * d := Int.mul_le_mul_of_nonneg_right (by omega) (by omega)
    rw [Int.add_mul, Int.one_mul] at this
    omega
  · by_cases e : c = ce u d
    · exact e
    · have : (ce u d + 1) * d ≤ c * d := Int.mul_le_mul_of_nonneg_right (by omega) (by omega)
      rw [Int.add_mul, Int.one_mul] at this
      omega
theorem tdiv_facts (u d : Int) (hd : 0 < d) : (0 ≤ u → 0 ≤ u - Int.tdiv u d * d ∧ u - Int.tdiv u d * d < d) ∧ (u < 0 → 0 ≤ Int.tdiv u d * d - u ∧ Int.tdiv u d * d - u < d) := by
  have h := Int.mul_tdiv_add_tmod u d
  rw [Int.mul_comm] at h
  constructor
  · intro hu
    have h1 := Int.tmod_nonneg d hu
    have h2 := Int.tmod_lt_of_pos u hd
    omega
  · intro hu
    have h1 := Int.tmod_nonneg d (show 0 ≤ -u by omega)
    have h2 := Int.tmod_lt_of_pos (-u) hd
    rw [Int.neg_tmod] at h1 h2
    omega
theorem ce_bd {u d n : Int} (hd : 0 < d) (h : -n ≤ u ∧ u ≤ n) (hn : 0 ≤ n) : -n ≤ ce u d ∧ ce u d ≤ n := by
  have h2 := ce_spec (u := u) hd
  constructor
  · rcases ltge (ce u d) (-n) with h' | h'
    · exfalso
      have t1 : ce u d * d ≤ (-n - 1) * d := Int.mul_le_mul_of_nonneg_right (by omega) (by omega)
      have t2 : (-n - 1) * d ≤ (-n - 1) * 1 := Int.mul_le_mul_of_nonpos_left (by omega) (by omega)
      omega
    · exact h'
  · rcases ltge n (ce u d) with h' | h'
    · exfalso
      have t1 : (n + 1) * d ≤ ce u d * d := Int.mul_le_mul_of_nonneg_right (by omega) (by omega)
      rw [Int.add_mul, Int.one_mul] at t1
      have t2 : n * 1 ≤ n * d := Int.mul_le_mul_of_nonneg_left (by omega) hn
      omega
    · exact h'
theorem impl_ceiling_ev (u d : Int) (hd : 0 < d) (hb : d ≤ 1000) (hu : -1000 ≤ u ∧ u ≤ 1000) : impl_ceiling.f u d = some (ce u d) := by
  unfold impl_ceiling.f
  have b := tdiv_le u d
  have f := tdiv_facts u d hd
  have w1 : wrap64 (Int.tdiv u d) = Int.tdiv u d := w64 (by omega)
  have pm := mulb (a := Int.tdiv u d) (b := d) (by unfold Pt; omega) (by unfold Pt; omega)
  have w2 : wrap64 (Int.tdiv u d * d) = Int.tdiv u d * d := w64 (by omega)
  rw [if_neg (by omega), w1, w2]
  by_cases h : Int.tdiv u d * d < u
  · rw [if_pos h, w64 (by omega)]
    congr 1
    refine ce_unique hd ?_ ?_ <;> rw [Int.add_mul, Int.one_mul]
    · have h' : 0 ≤ u := by
        rcases ltge u 0 with x | x
        · have := f.2 x; omega
        · exact x
      have := f.1 h'
      omega
    · omega
  · rw [if_neg h]
    congr 1
    refine ce_unique hd (by omega) ?_
    rcases ltge u 0 with x | x
    · have := f.2 x; omega
    · have := f.1 x; omega
theorem spec_l4Over_ev (u d : Int) (hd : 0 < d) (hb : d ≤ 1000) (hu : -1000 ≤ u ∧ u ≤ 1000) : spec_l4Over.f u d = some (ce u d) := by
  unfold spec_l4Over.f spec_l3Under.f
  have b := tdiv_le (-u) d
  have f := tdiv_facts (-u) d hd
  have w0 : wrap64 (-u) = -u := w64 (by omega)
  rw [w0]
  have w1 : wrap64 (Int.tdiv (-u) d) = Int.tdiv (-u) d := w64 (by omega)
  have pm := mulb (a := Int.tdiv (-u) d) (b := d) (by unfold Pt; omega) (by unfold Pt; omega)
  have w2 : wrap64 (Int.tdiv (-u) d * d) = Int.tdiv (-u) d * d := w64 (by omega)
  rw [if_neg (by omega), w1, w2]
  by_cases h : Int.tdiv (-u) d * d > -u
  · rw [if_pos h, w64 (by omega)]
    simp only [Option.bind_some]
    rw [w64 (by omega)]
    congr 1
    refine ce_unique hd ?_ ?_ <;> rw [Int.neg_mul, Int.sub_mul, Int.one_mul]
    · have h' : -u < 0 := by
        rcases ltge (-u) 0 with x | x
        · exact x
        · have := f.1 x; omega
      have := f.2 h'
      omega
    · omega
  · rw [if_neg h]
    simp only [Option.bind_some]
    rw [w64 (by omega)]
    congr 1
    refine ce_unique hd ?_ ?_ <;> rw [Int.neg_mul]
    · omega
    · rcases ltge (-u) 0 with x | x
      · have := f.2 x; omega
      · have := f.1 x; omega
def teL : Nat → Int → Int → List Int
  | 0, _, _ => []
  | n + 1, u, d => if ce u d * d - u = 0 then [ce u d] else ce u d :: teL n d (ce u d * d - u)
theorem impl_termsOf_l0 (n : Nat) : ∀ (k : Nat) (l : List Int) (u d : Int), n < k → 0 < d → d ≤ n → d ≤ 60 → -60 ≤ u → u ≤ 60 → l.length + n ≤ 1000 → impl_termsOf.l0 k l u d = some (l ++ teL n u d) := by
  induction n with
  | zero => intro k l u d hk h0 h1; omega
  | succ n ih =>
    intro k l u d hk h0 h1 h2 h3 h4 h5
    obtain ⟨k, rfl⟩ : ∃ m, k = m + 1 := ⟨k - 1, by omega⟩
    simp only [impl_termsOf.l0, teL]
    have hc := ce_spec (u := u) h0
    have hb := ce_bd (n := 60) h0 ⟨h3, h4⟩ (by omega)
    have pm := mulb (a := ce u d) (b := d) (by unfold Pt; omega) (by unfold Pt; omega)
    rw [impl_ceiling_ev u d h0 (by omega) (by omega)]
    simp only [Option.bind_some]
    rw [if_pos (by omega), w64 (by omega : -9223372036854775808 ≤ ce u d * d ∧ _), w64 (by omega)]
    by_cases hz : ce u d * d - u = 0
    · rw [if_pos hz, if_pos hz]
    · rw [if_neg hz, if_neg hz, ih k _ _ _ (by omega) (by omega) (by omega) (by omega) (by omega) (by omega) (by simp; omega)]
      simp
theorem impl_termsOf_ev (k : Nat) (hk : 70 ≤ k) (u d : Int) (h0 : 0 < d) (h2 : d ≤ 60) (h3 : -60 ≤ u ∧ u ≤ 60) : impl_termsOf.f k u d = some (teL 60 u d) := by
  unfold impl_termsOf.f
  have := impl_termsOf_l0 60 k [] u d (by omega) h0 (by omega) h2 h3.1 h3.2 (by simp)
  simpa using this
def Tf (u d : Int) : Prop := Fr u d ∧ -60 ≤ u ∧ u ≤ 60 ∧ 1 ≤ d ∧ d ≤ 60
instance (u d : Int) : Decidable (Tf u d) := by unfold Tf; exact inferInstance
theorem impl_TermsOf_ev (k : Nat) (hk : 1000100 ≤ k) (u d : Int) : impl_TermsOf.f k u d = some (if Tf u d then (teL 60 u d, true) else ([], false)) := by
  unfold impl_TermsOf.f
  rw [impl_isSmall_ev k (by omega) u d 60 (by omega)]
  simp only [Option.bind_some, decide_eq_true_eq]
  by_cases h : Fr u d ∧ -60 ≤ u ∧ u ≤ 60 ∧ d ≤ 60
  · rw [if_pos h]
    have hd := h.1.2.2.1
    by_cases h0 : d = 0
    · rw [if_pos h0, if_neg (by intro x; have := x.2.2.2.1; omega)]
    · have ht : Tf u d := ⟨h.1, h.2.1, h.2.2.1, by omega, h.2.2.2⟩
      rw [if_neg h0, if_pos ht, impl_termsOf_ev k (by omega) u d (by omega) h.2.2.2 ⟨h.2.1, h.2.2.1⟩]
      rfl
  · rw [if_neg h, if_neg (fun x => h ⟨x.1, x.2.1, x.2.2.1, x.2.2.2.2⟩)]
theorem spec_l4Terms_l0 (n : Nat) : ∀ (k : Nat) (l : List Int) (u d : Int), n + 1 < k → 0 < d → d ≤ n → d ≤ 60 → -60 ≤ u → u ≤ 60 → l.length + n ≤ 1000 → spec_l4Terms.l0 k l u d = some (l ++ teL n u d) := by
  induction n with
  | zero => intro k l u d hk h0 h1; omega
  | succ n ih =>
    intro k l u d hk h0 h1 h2 h3 h4 h5
    obtain ⟨k, rfl⟩ : ∃ m, k = m + 1 := ⟨k - 1, by omega⟩
    simp only [spec_l4Terms.l0, teL]
    have hc := ce_spec (u := u) h0
    have hb := ce_bd (n := 60) h0 ⟨h3, h4⟩ (by omega)
    have pm := mulb (a := ce u d) (b := d) (by unfold Pt; omega) (by unfold Pt; omega)
    rw [if_pos h0, spec_l4Over_ev u d h0 (by omega) (by omega)]
    simp only [Option.bind_some]
    rw [if_pos (by omega), w64 (by omega : -9223372036854775808 ≤ ce u d * d ∧ _), w64 (by omega)]
    by_cases hz : ce u d * d - u = 0
    · rw [if_pos hz, hz]
      obtain ⟨k, rfl⟩ : ∃ m, k = m + 1 := ⟨k - 1, by omega⟩
      simp only [spec_l4Terms.l0]
      rw [if_neg (by omega)]
    · rw [if_neg hz, ih k _ _ _ (by omega) (by omega) (by omega) (by omega) (by omega) (by omega) (by simp; omega)]
      simp
theorem spec_TermsOf_ev (k : Nat) (hk : 1000100 ≤ k) (u d : Int) : spec_TermsOf.f k u d = some (if Tf u d then (teL 60 u d, true) else ([], false)) := by
  unfold spec_TermsOf.f
  simp only [spec_FractionOk_ev k (by omega), spec_l1In_ev, Option.bind_some, decide_eq_true_eq]
  by_cases h1 : Fr u d
  · rw [if_pos h1]
    by_cases h2 : -60 ≤ u ∧ u ≤ 60
    · rw [if_pos h2]
      by_cases h3 : 1 ≤ d ∧ d ≤ 60
      · have ht : Tf u d := ⟨h1, h2.1, h2.2, h3.1, h3.2⟩
        rw [if_pos h3, if_pos ht]
        unfold spec_l4Terms.f
        rw [spec_l4Terms_l0 60 k [] u d (by omega) (by omega) (by omega) h3.2 h2.1 h2.2 (by simp)]
        simp
      · rw [if_neg h3, if_neg (fun x => h3 ⟨x.2.2.2.1, x.2.2.2.2⟩)]
    · rw [if_neg h2, if_neg (fun x => h2 ⟨x.2.1, x.2.2.1⟩)]
  · rw [if_neg h1, if_neg (fun x => h1 x.1)]
theorem teL_len (n : Nat) : ∀ (u d : Int), 0 < d → d ≤ n → ((teL n u d).length : Int) ≤ d ∧ 1 ≤ (teL n u d).length := by
  induction n with
  | zero => intro u d h0 h1; omega
  | succ n ih =>
    intro u d h0 h1
    have hc := ce_spec (u := u) h0
    simp only [teL]
    by_cases hz : ce u d * d - u = 0
    · rw [if_pos hz]; simp; omega
    · rw [if_neg hz]
      have := ih d (ce u d * d - u) (by omega) (by omega)
      simp
      omega
def oStep (a : Int) (f : Int × Int) : Option (Int × Int) := if Fr (ovU f.1 f.2 + a * ovD f.1) (ovD f.1) then some (ovU f.1 f.2 + a * ovD f.1, ovD f.1) else none
def oT (i : Option (Int × Int)) (l : List Int) : Option (Int × Int) := l.foldr (fun a f => f.bind (oStep a)) i
theorem oT_none (l : List Int) : oT none l = none := by
  induction l with
  | nil => rfl
  | cons a l ih => unfold oT at ih ⊢; rw [List.foldr_cons, ih]; rfl
theorem oT_snoc (i : Option (Int × Int)) (l : List Int) (a : Int) : oT i (l ++ [a]) = oT (i.bind (oStep a)) l := by
  unfold oT; rw [List.foldr_append]; rfl
def oR (o : Option (Int × Int)) : Int × Int × Bool := match o with | some f => (f.1, f.2, true) | none => (0, 0, false)
theorem oStep_pl (a : Int) (f : Int × Int) : pl (ovU f.1 f.2) (ovD f.1) a = oR (oStep a f) := by
  unfold pl oStep
  split
  · rfl
  · rfl
theorem oStep_fr {a : Int} {f g : Int × Int} (h : oStep a f = some g) : Fr g.1 g.2 := by
  unfold oStep at h
  split at h
  · have := Option.some.inj h
    rw [← this]
    assumption
  · cases h
theorem tm_pt {l : List Int} (h : Tm l) (i : Int) (h0 : 0 ≤ i) (h1 : i.toNat < l.length) : Pt (rd l i) := by
  obtain ⟨g1, g2, g3, g4, g5⟩ := h
  by_cases e : i = 0
  · rw [e]; unfold Pt; omega
  · rw [List.all_eq_true] at g5
    have hr : rd l i = l[i.toNat] := by unfold rd; simp [h1]
    have hm : l[i.toNat] ∈ l.drop 1 := by
      rw [List.mem_iff_getElem]
      refine ⟨i.toNat - 1, by simp; omega, ?_⟩
      rw [List.getElem_drop]
      congr 1
      omega
    have := of_decide_eq_true (g5 _ hm)
    rw [hr]; unfold Pt; omega
theorem impl_OfTerms_l0 (l : List Int) (hl : Tm l) (n : Nat) : ∀ (k : Nat) (f : Int × Int), 1000010 + n ≤ k → n ≤ l.length → Fr f.1 f.2 → impl_OfTerms.l0 k l ((n : Int) - 1) f.1 f.2 = some (oR (oT (some f) (l.take n))) := by
  have hl60 := hl.2.1
  induction n with
  | zero =>
    intro k f hk hn hf
    obtain ⟨k, rfl⟩ : ∃ m, k = m + 1 := ⟨k - 1, by omega⟩
    simp only [impl_OfTerms.l0]
    rw [if_neg (by omega)]
    rfl
  | succ n ih =>
    intro k f hk hn hf
    obtain ⟨k, rfl⟩ : ∃ m, k = m + 1 := ⟨k - 1, by omega⟩
    simp only [impl_OfTerms.l0]
    have e : ((n + 1 : Nat) : Int) - 1 = (n : Int) := by omega
    have hn1 : n < l.length := by omega
    have hp := tm_pt hl (n : Int) (by omega) (by omega)
    have hr : rd l (n : Int) = l[n] := by unfold rd; simp [hn1]
    rw [e, if_pos (by omega), impl_lowest_over k (by omega) hf]
    simp only [Option.bind_some]
    rw [if_pos (by omega), if_pos (by omega), impl_plus_ev k (by omega) _ _ _ hf.over hp, hr, oStep_pl]
    simp only [Option.bind_some]
    rw [List.take_succ_eq_append_getElem hn1, oT_snoc]
    simp only [Option.bind_some]
    cases hs : oStep l[n] f with
    | none => rw [oT_none]; rfl
    | some g =>
      have hg := oStep_fr hs
      simp only [oR, if_true]
      rw [w64 (by omega)]
      exact ih k g (by omega) (by omega) hg
theorem impl_OfTerms_ev (k : Nat) (hk : 1000200 ≤ k) (l : List Int) (hn : l.length ≤ 1000000) : impl_OfTerms.f k l = some (if Tm l then oR (oT (some (1, 0)) l) else (0, 0, false)) := by
  unfold impl_OfTerms.f
  rw [impl_areTerms_ev k l (by omega) (by omega)]
  simp only [Option.bind_some, decide_eq_true_eq]
  by_cases h : Tm l
  · have h' := h
    obtain ⟨g1, g2, g3, g4, g5⟩ := h'
    have w1 : wrap64 ((l.length : Int) - 1) = ((l.length - 1 : Nat) : Int) := by rw [w64 (by omega)]; omega
    have w2 : wrap64 ((l.length : Int) - 2) = ((l.length - 1 : Nat) : Int) - 1 := by rw [w64 (by omega)]; omega
    rw [if_pos h, if_pos h, w1, w2, if_pos (by omega), if_pos (by omega)]
    have hp := tm_pt h ((l.length - 1 : Nat) : Int) (by omega) (by omega)
    have hn1 : l.length - 1 < l.length := by omega
    have hr : rd l ((l.length - 1 : Nat) : Int) = l[l.length - 1] := by unfold rd; simp [hn1]
    rw [hr] at hp ⊢
    have hf : Fr l[l.length - 1] 1 := by
      unfold Pt at hp
      exact ⟨by omega, by omega, by omega, by omega, by omega, by simp⟩
    rw [impl_OfTerms_l0 l h (l.length - 1) k (l[l.length - 1], 1) (by omega) (by omega) hf]
    have e : l = l.take (l.length - 1) ++ [l[l.length - 1]] := by
      rw [← List.take_succ_eq_append_getElem hn1]
      rw [List.take_of_length_le (by omega)]
    have es : oStep l[l.length - 1] (1, 0) = some (l[l.length - 1], 1) := by
      have o1 : ovU 1 0 = 0 := by decide
      have o2 : ovD 1 = 1 := by decide
      unfold oStep
      simp only [o1, o2, Int.mul_one, Int.zero_add]
      rw [if_pos hf]
    have : oT (some (1, 0)) l = oT (some (l[l.length - 1], 1)) (l.take (l.length - 1)) := by
      conv => lhs; rw [e]
      rw [oT_snoc]
      simp only [Option.bind_some]
      rw [es]
    rw [this]
  · rw [if_neg h, if_neg h]
theorem spec_OfTerms_l0 (l : List Int) (hl : Tm l) (n : Nat) : ∀ (k : Nat) (f : Int × Int), 1000010 + n ≤ k → n ≤ l.length → Fr f.1 f.2 → spec_OfTerms.l0 k l ((n : Int) - 1) f.1 f.2 = some (oR (oT (some f) (l.take n))) := by
  have hl60 := hl.2.1
  induction n with
  | zero =>
    intro k f hk hn hf
    obtain ⟨k, rfl⟩ : ∃ m, k = m + 1 := ⟨k - 1, by omega⟩
    simp only [spec_OfTerms.l0]
    rw [if_neg (by omega)]
    rfl
  | succ n ih =>
    intro k f hk hn hf
    obtain ⟨k, rfl⟩ : ∃ m, k = m + 1 := ⟨k - 1, by omega⟩
    simp only [spec_OfTerms.l0]
    have e : ((n + 1 : Nat) : Int) - 1 = (n : Int) := by omega
    have hn1 : n < l.length := by omega
    have hp := tm_pt hl (n : Int) (by omega) (by omega)
    have hr : rd l (n : Int) = l[n] := by unfold rd; simp [hn1]
    rw [e, if_pos (by omega), spec_OverOf_ev k (by omega), if_pos hf]
    simp only [Option.bind_some]
    rw [hr] at hp
    have hq : Fr (ovU f.1 f.2) (ovD f.1) ∧ Pt l[n] := ⟨hf.over, hp⟩
    rw [if_pos (by omega), if_pos (by omega), hr, spec_PlusOf_ev k (by omega), if_pos hq, oStep_pl]
    simp only [Option.bind_some]
    rw [List.take_succ_eq_append_getElem hn1, oT_snoc]
    simp only [Option.bind_some]
    cases hs : oStep l[n] f with
    | none => rw [oT_none]; rfl
    | some g =>
      have hg := oStep_fr hs
      simp only [oR, if_true]
      rw [w64 (by omega)]
      exact ih k g (by omega) (by omega) hg
theorem spec_OfTerms_ev (k : Nat) (hk : 1000200 ≤ k) (l : List Int) (hn : l.length ≤ 1000000) : spec_OfTerms.f k l = some (if Tm l then oR (oT (some (1, 0)) l) else (0, 0, false)) := by
  unfold spec_OfTerms.f
  rw [spec_TermsOk_ev k l (by omega) (by omega)]
  simp only [Option.bind_some, decide_eq_true_eq]
  by_cases h : Tm l
  · have g1 := h.1
    rw [if_pos h, if_pos h, w64 (by omega), spec_OfTerms_l0 l h l.length k (1, 0) (by have := h.2.1; omega) (by omega) (by decide), List.take_length]
  · rw [if_neg h, if_neg h]
theorem oT_shape (r : List Int) : ∀ (a u d : Int), r.all t2 = true → oT (some (1, 0)) (a :: r) = some (u, d) →
    0 < d ∧ (a - 1) * d < u ∧ u ≤ a * d ∧ Fr u d ∧ (∀ n : Nat, d ≤ n → teL n u d = a :: r) := by
  induction r with
  | nil =>
    intro a u d _ h
    have h' : oStep a (1, 0) = some (u, d) := h
    have hf := oStep_fr h'
    have o1 : ovU 1 0 = 0 := by decide
    have o2 : ovD 1 = 1 := by decide
    unfold oStep at h'
    simp only [o1, o2, Int.mul_one, Int.zero_add] at h'
    split at h'
    · have e := Option.some.inj h'
      have e1 : a = u := congrArg Prod.fst e
      have e2 : 1 = d := congrArg Prod.snd e
      subst e1 e2
      refine ⟨by omega, by omega, by omega, hf, ?_⟩
      intro n hn
      obtain ⟨n, rfl⟩ : ∃ m, n = m + 1 := ⟨n - 1, by omega⟩
      have hc : a = ce a 1 := ce_unique (by omega) (by omega) (by omega)
      simp only [teL]
      rw [← hc, if_pos (by omega)]
    · cases h'
  | cons b r ih =>
    intro a u d ht h
    rw [List.all_cons, Bool.and_eq_true] at ht
    have hb := of_decide_eq_true ht.1
    have h' : (oT (some (1, 0)) (b :: r)).bind (oStep a) = some (u, d) := h
    obtain ⟨⟨u', d'⟩, h1, h2⟩ := Option.bind_eq_some_iff.mp h'
    obtain ⟨q1, q2, q3, q4, q5⟩ := ih b u' d' ht.2 h1
    have hf := oStep_fr h2
    have hu' : d' < u' := by
      have : 1 * d' ≤ (b - 1) * d' := Int.mul_le_mul_of_nonneg_right (by omega) (by omega)
      omega
    have o1 : ovU u' d' = -d' := by unfold ovU; rw [if_neg (by omega)]
    have o2 : ovD u' = u' := by unfold ovD; rw [if_neg (by omega)]
    unfold oStep at h2
    simp only [o1, o2] at h2
    split at h2
    · have e := Option.some.inj h2
      have e1 : -d' + a * u' = u := congrArg Prod.fst e
      have e2 : u' = d := congrArg Prod.snd e
      subst e2
      refine ⟨by omega, ?_, by omega, hf, ?_⟩
      · rw [Int.sub_mul, Int.one_mul]; omega
      · intro n hn
        obtain ⟨n, rfl⟩ : ∃ m, n = m + 1 := ⟨n - 1, by omega⟩
        have hc : a = ce u u' := ce_unique (by omega) (by omega) (by omega)
        simp only [teL]
        rw [← hc, if_neg (by omega)]
        have er : a * u' - u = d' := by omega
        rw [er, q5 n (by omega)]
    · cases h2
theorem termed_ev (k : Nat) (hk : 1000010 ≤ k) (l : List Int) (hl : Bs l) (p : Int) (hp : 0 ≤ p ∧ p ≤ 800000) :
    ∃ u d p', spec_l20Termed.f k l p = some (u, d, p') ∧ p ≤ p' ∧ p' ≤ p + 30 := by
  unfold spec_l20Termed.f
  obtain ⟨b, p1, e, h2, h3⟩ := odd_ev k (by omega) l hl p 9 (by omega) (by omega)
  rw [e]
  simp only [Option.bind_some]
  by_cases hb : b = true
  · rw [if_pos hb]
    obtain ⟨u, d, p2, e2, h4, h5, _⟩ := fraction_ev k (by omega) l hl p1 3 (by omega) (by omega)
    rw [e2]
    exact ⟨u, d, p2, rfl, by omega, by omega⟩
  · rw [if_neg hb]
    obtain ⟨x1, q1, a1, a2, _⟩ := pick_ev k (by omega) l hl p1 61 (by omega) (by omega)
    rw [q1]
    simp only [Option.bind_some]
    obtain ⟨x2, q2, b1, b2, _⟩ := pick_ev k (by omega) l hl (p1 + 1) 61 (by omega) (by omega)
    rw [q2]
    simp only [Option.bind_some]
    obtain ⟨x3, q3, c1, c2, _⟩ := pick_ev k (by omega) l hl (p1 + 1 + 1) 2 (by omega) (by omega)
    rw [q3]
    simp only [Option.bind_some]
    have c3 := c2 (by omega)
    rw [if_pos c1, if_pos (by simp only [List.length_cons, List.length_nil]; omega)]
    have hh : 1 ≤ rd [12, 60] x3 ∧ rd [12, 60] x3 ≤ 1000 := by
      have : x3 = 0 ∨ x3 = 1 := by omega
      rcases this with rfl | rfl <;> decide
    obtain ⟨x4, q4, d1, d2, _⟩ := pick_ev k (by omega) l hl (p1 + 1 + 1 + 1) (rd [12, 60] x3) (by omega) (by omega)
    rw [q4]
    simp only [Option.bind_some]
    rw [spec_LowestOf_ev k (by omega)]
    simp only [Option.bind_some]
    split
    · exact ⟨_, _, _, rfl, by omega, by omega⟩
    · exact ⟨_, _, _, rfl, by omega, by omega⟩
theorem ofterms_core (k : Nat) (hk : 1000500 ≤ k) (t : List Int) (h : Tm t) (u d : Int) (ho : oT (some (1, 0)) t = some (u, d)) :
    laws_FnOfTerms.j0 k t true false u d = some true := by
  obtain ⟨k, rfl⟩ : ∃ m, k = m + 1 := ⟨k - 1, by omega⟩
  obtain ⟨g1, g2, g3, g4, g5⟩ := h
  cases t with
  | nil => simp at g1
  | cons a r =>
    have ea : rd (a :: r) 0 = a := rfl
    rw [ea] at g3 g4
    have g6 : r.all t2 = true := g5
    obtain ⟨q1, q2, q3, q4, q5⟩ := oT_shape r a u d g6 ho
    simp only [laws_FnOfTerms.j0, ea]
    have hl : (0 : Int) < ((a :: r).length : Int) := by rw [List.length_cons]; omega
    have w1 : wrap64 (a - 1) = a - 1 := w64 (by omega)
    have f1 : Fr a 1 := by unfold Fr; exact ⟨by omega, by omega, by omega, by omega, by omega, by simp⟩
    have f2 : Fr (a - 1) 1 := by unfold Fr; exact ⟨by omega, by omega, by omega, by omega, by omega, by simp⟩
    have n1 : ¬ Ls a 1 u d := fun x => by have := x.2.2.2.2; omega
    have n2 : Ls (a - 1) 1 u d := ⟨f2, q4, by omega, q1, by omega⟩
    rw [if_neg (by simp), if_pos trivial, impl_TermsOf_ev k (by omega), w1, impl_LessOk_ev k (by omega), impl_LessOk_ev k (by omega)]
    simp only [Option.bind_some, decide_eq_true_eq]
    rw [if_pos hl]
    by_cases ht : Tf u d
    · simp only [if_pos ht, if_true]
      have hd := ht.2.2.2.2
      rw [q5 60 (by omega), laws_sameInts_ev k _ _ (by omega) (by omega)]
      simp only [Option.bind_some, decide_true, if_true]
      rw [if_neg n1, if_pos n2]
      simp; omega
    · simp only [if_neg ht]
      rw [if_neg (by simp), if_neg n1, if_pos n2]
      simp; omega
theorem FnOfTerms : laws_FnOfTerms.Pure := by
  intro l _ _ hw
  refine ⟨1000510, ?_⟩
  unfold laws_FnOfTerms.f
  by_cases hn : (l.length : Int) > 1048576
  · rw [if_pos hn]
  · rw [if_neg hn]
    obtain ⟨m, e1, hm⟩ := open_ev l hw
    obtain ⟨u, d, p', e2, hp1, hp2⟩ := termed_ev 1000510 (by omega) m hm 0 (by omega)
    obtain ⟨t, e3, ht⟩ : ∃ t, spec_DrawOfTerms.f 1000510 l = some t ∧ t.length ≤ 100 := by
      unfold spec_DrawOfTerms.f
      rw [e1]
      simp only [Option.bind_some]
      rw [e2]
      simp only [Option.bind_some]
      rw [spec_TermsOf_ev _ (by omega)]
      simp only [Option.bind_some]
      by_cases h : Tf u d
      · have hl := teL_len 60 u d (by have := h.2.2.2.1; omega) (by have := h.2.2.2.2; omega)
        have hd := h.2.2.2.2
        simp only [if_pos h, if_true]
        obtain ⟨r, e4, _⟩ := pick_ev 1000510 (by omega) m hm p' 2 (by omega) (by omega)
        rw [e4]
        simp only [Option.bind_some]
        split
        · exact ⟨_, rfl, by omega⟩
        · obtain ⟨t, p2, e5, ht⟩ := terms_ev 1000510 m hm (p' + 1) 9 (by omega) (by omega) (by omega)
          rw [e5]
          exact ⟨_, rfl, ht⟩
      · simp only [if_neg h]
        rw [if_neg (by simp)]
        obtain ⟨t, p2, e5, ht⟩ := terms_ev 1000510 m hm p' 9 (by omega) (by omega) (by omega)
        rw [e5]
        exact ⟨_, rfl, ht⟩
    rw [e3]
    simp only [Option.bind_some]
    rw [impl_OfTerms_ev _ (by omega) _ (by omega), spec_OfTerms_ev _ (by omega) _ (by omega)]
    simp only [Option.bind_some]
    rw [if_neg (by simp)]
    have hz : ∀ b : Bool, (b != b) = false := by decide
    rw [hz]
    by_cases h : Tm t
    · simp only [if_pos h]
      cases ho : oT (some (1, 0)) t with
      | none =>
        simp only [oR, laws_FnOfTerms.j0, alive_ev 1000509 (by omega)]
        simp
      | some f =>
        exact ofterms_core _ (by omega) t h f.1 f.2 ho
    · simp only [if_neg h]
      simp only [laws_FnOfTerms.j0, alive_ev 1000509 (by omega)]
      simp
end Go.Proofs.Ytmckeejjddablaa.Pure
