/- The pure part of the law FnExactTermsOk: the printed law answers true at all lists of numbers of 64 bits. No conditions. -/
import Derived.Test.YtapmccfnjlpamaaPFnExactTermsOkx1
import Derived.OpenShut
namespace Go.Proofs.Ytapmccfnjlpamaa.Pure
open Go.RowKit Go.Proofs.Ytapmccfnjlpamaa.PFnExactTermsOk Go.Proofs.YtapmccfnjlpamaaW.PrintWords Go.Proofs.YtapmccfnjlpamaaW.PrintLast Go.Proofs.YtapmccfnjlpamaaW.PrintMore
set_option linter.unusedVariables false
set_option linter.unusedSimpArgs false
theorem st {P : Prop} [Decidable P] (h : P) : some true = some (decide P) := by simp [h]
theorem sf {P : Prop} [Decidable P] (h : ¬P) : some false = some (decide P) := by simp [h]
theorem sd {P Q : Prop} [Decidable P] [Decidable Q] (h : P ↔ Q) : some (decide P) = some (decide Q) := by simp [h]
theorem w64 {n : Int} (h : -9223372036854775808 ≤ n ∧ n ≤ 9223372036854775807) : wrap64 n = n := by unfold wrap64; omega
def Fr (u d : Int) : Prop := -1000000 ≤ u ∧ u ≤ 1000000 ∧ 0 ≤ d ∧ d ≤ 1000000 ∧ (d = 0 → u = 1) ∧ (Int.gcd u d = 1)
instance (u d : Int) : Decidable (Fr u d) := by unfold Fr; exact inferInstance
def Pt (n : Int) : Prop := -1000000 ≤ n ∧ n ≤ 1000000
instance (n : Int) : Decidable (Pt n) := by unfold Pt; exact inferInstance
theorem gcd_step (a b : Int) : Int.gcd b (Int.tmod a b) = Int.gcd a b := by
  unfold Int.gcd
  rw [Int.natAbs_tmod, Nat.gcd_comm a.natAbs b.natAbs, Nat.gcd_rec b.natAbs a.natAbs, Nat.gcd_comm]
theorem tmod_lt (a b : Int) (h : b ≠ 0) : (Int.tmod a b).natAbs < b.natAbs := by
  rw [Int.natAbs_tmod]
  exact Nat.mod_lt _ (by omega)
theorem tdiv_le (a b : Int) : (Int.tdiv a b).natAbs ≤ a.natAbs := by
  rw [Int.natAbs_tdiv]
  exact Nat.div_le_self _ _
theorem tdiv_w (a b : Int) (h : -1000000 ≤ a ∧ a ≤ 1000000) : wrap64 (Int.tdiv a b) = Int.tdiv a b := by
  have := tdiv_le a b
  exact w64 (by omega)
theorem gcd_le_pt (a b : Int) (ha : Pt a) (hb : Pt b) : (Int.gcd a b : Int) ≤ 1000000 := by
  unfold Pt at ha hb
  by_cases h : a = 0
  · subst h
    rw [Int.zero_gcd]
    omega
  · have := Int.gcd_le_natAbs_left b h
    omega
theorem gcd_pos (a b : Int) (h : ¬(a = 0 ∧ b = 0)) : 0 < Int.gcd a b := by
  rcases Nat.eq_zero_or_pos (Int.gcd a b) with h' | h'
  · exact absurd (Int.gcd_eq_zero_iff.mp h') h
  · exact h'
def sg (u d : Int) : Int := if d < 0 ∨ (d = 0 ∧ u < 0) then -(Int.gcd u d : Int) else (Int.gcd u d : Int)
def lowU (u d : Int) : Int := Int.tdiv u (sg u d)
def lowD (u d : Int) : Int := Int.tdiv d (sg u d)
theorem sg_ne (u d : Int) (h : ¬(u = 0 ∧ d = 0)) : sg u d ≠ 0 := by
  have := gcd_pos u d h
  unfold sg
  split <;> omega
theorem mulb {a b : Int} (ha : Pt a) (hb : Pt b) : -1000000000000 ≤ a * b ∧ a * b ≤ 1000000000000 := by
  unfold Pt at ha hb
  have h1 : a.natAbs ≤ 1000000 := by omega
  have h2 : b.natAbs ≤ 1000000 := by omega
  have := Nat.mul_le_mul h1 h2
  rw [← Int.natAbs_mul] at this
  omega
theorem wmul {a b : Int} (ha : Pt a) (hb : Pt b) : wrap64 (a * b) = a * b := by
  have := mulb ha hb
  exact w64 (by omega)
theorem Fr.pu {u d : Int} (h : Fr u d) : Pt u := ⟨h.1, h.2.1⟩
theorem Fr.pd {u d : Int} (h : Fr u d) : Pt d := by unfold Fr at h; unfold Pt; omega
theorem spec_l1In_ev (n a b : Int) : spec_l1In.f n a b = some (decide (a ≤ n ∧ n ≤ b)) := by
  unfold spec_l1In.f
  split
  · exact sd (by omega)
  · exact sf (by omega)
theorem gd {xs : List Int} {j : Nat} (h : j < xs.length) : xs.getD j 0 = xs[j] := by simp [h]
theorem rd_eq (xs : List Int) (i : Int) (h0 : 0 ≤ i) (h : i.toNat < xs.length) : rd xs i = xs[i.toNat] := by unfold rd; simp [h]
theorem laws_toIntS_l0 (x0 : List Int) (hn : x0.length ≤ 1048576) (d : Nat) : ∀ (k : Nat) (x3 : List Int) (i : Int), 0 ≤ i → i + d = x0.length → d < k → x3.length = x0.length → (∀ j : Nat, (j : Int) < i → x3.getD j 0 = x0.getD j 0) → laws_toIntS.l0 k x0 x3 i = some x0 := by
  induction d with
  | zero =>
    intro k x3 i h0 hd hk hl hj
    obtain ⟨k, rfl⟩ : ∃ m, k = m + 1 := ⟨k - 1, by omega⟩
    simp only [laws_toIntS.l0]
    rw [if_neg (by omega)]
    congr 1
    apply List.ext_getElem hl
    intro j h1 h2
    have := hj j (by omega)
    rw [gd h1, gd h2] at this
    exact this
  | succ d ih =>
    intro k x3 i h0 hd hk hl hj
    obtain ⟨k, rfl⟩ : ∃ m, k = m + 1 := ⟨k - 1, by omega⟩
    simp only [laws_toIntS.l0]
    rw [if_pos (by omega), if_pos h0, if_pos (by omega), w64 (by omega)]
    refine ih k _ (i + 1) (by omega) (by omega) (by omega) (by simpa using hl) ?_
    intro j hj'
    by_cases e : j = i.toNat
    · subst e
      have h1 : i.toNat < x3.length := by omega
      have h2 : i.toNat < x0.length := by omega
      rw [gd (by simpa using h1), gd h2, List.getElem_set_self, rd_eq _ _ h0 h2]
    · have := hj j (by omega)
      have h1 : j < x3.length := by omega
      rw [gd (by simpa using h1), List.getElem_set_ne (by omega)]
      rw [gd h1] at this
      exact this
theorem laws_toIntS_ev (k : Nat) (l : List Int) (hk : l.length < k) (hn : l.length ≤ 1048576) : laws_toIntS.f k l = some l := by
  unfold laws_toIntS.f
  rw [if_pos (by omega), if_pos (by omega)]
  exact laws_toIntS_l0 l hn l.length k _ 0 (by omega) (by omega) hk (by simp) (by intro j hj; omega)
theorem laws_eqIntS_l0 (a b : List Int) (hl : a.length = b.length) (hn : a.length ≤ 1048576) (d : Nat) : ∀ (k : Nat) (i : Int), 0 ≤ i → i + d = a.length → d < k → laws_eqIntS.l0 k a b i = some (decide (a.drop i.toNat = b.drop i.toNat)) := by
  induction d with
  | zero =>
    intro k i h0 hd hk
    obtain ⟨k, rfl⟩ : ∃ m, k = m + 1 := ⟨k - 1, by omega⟩
    simp only [laws_eqIntS.l0]
    rw [if_neg (by omega)]
    refine st ?_
    rw [List.drop_eq_nil_of_le (by omega), List.drop_eq_nil_of_le (by omega)]
  | succ d ih =>
    intro k i h0 hd hk
    obtain ⟨k, rfl⟩ : ∃ m, k = m + 1 := ⟨k - 1, by omega⟩
    simp only [laws_eqIntS.l0]
    have h1 : i.toNat < a.length := by omega
    have h2 : i.toNat < b.length := by omega
    rw [if_pos (by omega), if_pos h0, if_pos (by omega), w64 (by omega), ih k (i + 1) (by omega) (by omega) (by omega)]
    have e : (i + 1).toNat = i.toNat + 1 := by omega
    have ra : rd a i = a[i.toNat] := by unfold rd; simp [h1]
    have rb : rd b i = b[i.toNat] := by unfold rd; simp [h2]
    rw [e, ra, rb, List.drop_eq_getElem_cons h1, List.drop_eq_getElem_cons h2]
    by_cases hc : a[i.toNat] = b[i.toNat]
    · rw [if_pos hc]; exact sd (by rw [List.cons.injEq]; exact ⟨fun h => ⟨hc, h⟩, And.right⟩)
    · rw [if_neg hc]; exact sf (by rw [List.cons.injEq]; exact fun h => hc h.1)
theorem laws_eqIntS_ev (k : Nat) (a b : List Int) (hk : a.length < k) (hn : a.length ≤ 1048576) : laws_eqIntS.f k a b = some (decide (a = b)) := by
  unfold laws_eqIntS.f
  by_cases h : a.length = b.length
  · rw [if_pos (by omega), laws_eqIntS_l0 a b h hn a.length k 0 (by omega) (by omega) hk]; simp
  · rw [if_neg (by omega)]; exact sf (fun e => h (by rw [e]))
def t2 (n : Int) : Bool := decide (2 ≤ n ∧ n ≤ 60)
def Tm (l : List Int) : Prop := 1 ≤ l.length ∧ l.length ≤ 60 ∧ -60 ≤ rd l 0 ∧ rd l 0 ≤ 60 ∧ (l.drop 1).all t2 = true
instance (l : List Int) : Decidable (Tm l) := by unfold Tm; exact inferInstance
theorem spec_TermsOk_l0 (l : List Int) (hn : l.length ≤ 1048576) (d : Nat) : ∀ (k : Nat) (i : Int), 0 ≤ i → i + d = l.length → d < k → spec_TermsOk.l0 k l i = some (decide (1 ≤ l.length ∧ l.length ≤ 60 ∧ -60 ≤ rd l 0 ∧ rd l 0 ≤ 60 ∧ (l.drop i.toNat).all t2 = true)) := by
  induction d with
  | zero =>
    intro k i h0 hd hk
    obtain ⟨k, rfl⟩ : ∃ m, k = m + 1 := ⟨k - 1, by omega⟩
    simp only [spec_TermsOk.l0]
    rw [if_neg (by omega), List.drop_eq_nil_of_le (by omega)]
    simp only [spec_l1In_ev, Option.bind_some, decide_eq_true_eq]
    by_cases h : 1 ≤ (l.length : Int) ∧ (l.length : Int) ≤ 60
    · rw [if_pos h, if_pos (by omega)]; exact sd (by simp; omega)
    · rw [if_neg h]; exact sf (by intro x; omega)
  | succ d ih =>
    intro k i h0 hd hk
    obtain ⟨k, rfl⟩ : ∃ m, k = m + 1 := ⟨k - 1, by omega⟩
    simp only [spec_TermsOk.l0]
    have h1 : i.toNat < l.length := by omega
    rw [if_pos (by omega), if_pos h0, w64 (by omega), ih k (i + 1) (by omega) (by omega) (by omega)]
    have e : (i + 1).toNat = i.toNat + 1 := by omega
    have ra : rd l i = l[i.toNat] := by unfold rd; simp [h1]
    rw [e, ra, List.drop_eq_getElem_cons h1]
    simp only [spec_l1In_ev, Option.bind_some, decide_eq_true_eq, List.all_cons, Bool.and_eq_true]
    by_cases hc : 2 ≤ l[i.toNat] ∧ l[i.toNat] ≤ 60
    · rw [if_pos hc]
      have : t2 l[i.toNat] = true := by unfold t2; simpa using hc
      exact sd (by simp [this])
    · rw [if_neg hc]
      have : ¬ t2 l[i.toNat] = true := by unfold t2; simpa using hc
      exact sf (by intro x; exact this x.2.2.2.2.1)
theorem spec_TermsOk_ev (k : Nat) (l : List Int) (hk : l.length + 1 < k) (hn : l.length ≤ 1048576) : spec_TermsOk.f k l = some (decide (Tm l)) := by
  unfold spec_TermsOk.f
  by_cases h : l.length = 0
  · obtain ⟨k, rfl⟩ : ∃ m, k = m + 1 := ⟨k - 1, by omega⟩
    simp only [spec_TermsOk.l0]
    rw [if_neg (by omega), spec_l1In_ev]
    simp only [Option.bind_some, decide_eq_true_eq]
    rw [if_neg (by omega)]
    exact sf (by unfold Tm; omega)
  · rw [spec_TermsOk_l0 l hn (l.length - 1) k 1 (by omega) (by omega) (by omega)]
    exact sd (by unfold Tm; exact Iff.rfl)
theorem impl_areTerms_l0 (l : List Int) (hn : l.length ≤ 1048576) (d : Nat) : ∀ (k : Nat) (i : Int), 1 ≤ i → i + d = l.length → d < k → impl_areTerms.l0 k l l (l.length : Int) i = some (decide (1 ≤ l.length ∧ l.length ≤ 60 ∧ (l.drop i.toNat).all t2 = true)) := by
  induction d with
  | zero =>
    intro k i h0 hd hk
    obtain ⟨k, rfl⟩ : ∃ m, k = m + 1 := ⟨k - 1, by omega⟩
    simp only [impl_areTerms.l0]
    rw [if_neg (by omega), List.drop_eq_nil_of_le (by omega)]
    rw [if_pos (by omega)]; exact sd (by simp; omega)
  | succ d ih =>
    intro k i h0 hd hk
    obtain ⟨k, rfl⟩ : ∃ m, k = m + 1 := ⟨k - 1, by omega⟩
    simp only [impl_areTerms.l0]
    have h1 : i.toNat < l.length := by omega
    rw [if_pos (by omega), if_pos (by omega), if_pos (by omega), w64 (by omega), ih k (i + 1) (by omega) (by omega) (by omega)]
    have e : (i + 1).toNat = i.toNat + 1 := by omega
    have ra : rd l i = l[i.toNat] := by unfold rd; simp [h1]
    rw [e, ra, List.drop_eq_getElem_cons h1, if_neg (by omega : ¬ i = 0), if_pos (by omega : i > 0)]
    simp only [List.all_cons, Bool.and_eq_true]
    by_cases hc : l[i.toNat] > 60
    · rw [if_pos hc]
      have : ¬ t2 l[i.toNat] = true := by intro x; have := of_decide_eq_true x; omega
      exact sf (by intro x; exact this x.2.2.1)
    · rw [if_neg hc]
      by_cases hc' : l[i.toNat] < 2
      · rw [if_pos hc']
        have : ¬ t2 l[i.toNat] = true := by intro x; have := of_decide_eq_true x; omega
        exact sf (by intro x; exact this x.2.2.1)
      · rw [if_neg hc']
        have : t2 l[i.toNat] = true := decide_eq_true (by omega)
        exact sd (by simp [this])
theorem impl_areTerms_ev (k : Nat) (l : List Int) (hk : l.length + 1 < k) (hn : l.length ≤ 1048576) : impl_areTerms.f k l = some (decide (Tm l)) := by
  unfold impl_areTerms.f
  obtain ⟨k, rfl⟩ : ∃ m, k = m + 1 := ⟨k - 1, by omega⟩
  simp only [impl_areTerms.l0]
  by_cases h : l.length = 0
  · rw [if_neg (by omega), if_neg (by omega)]
    exact sf (by unfold Tm; omega)
  · rw [if_pos (by omega), if_pos (by omega), if_pos (by omega), w64 (by omega), impl_areTerms_l0 l hn (l.length - 1) k _ (by omega) (by omega) (by omega)]
    by_cases h1 : rd l 0 > 60
    · rw [if_pos h1]; exact sf (by unfold Tm; omega)
    · rw [if_neg h1, if_pos trivial]
      by_cases h2 : rd l 0 < -60
      · rw [if_pos h2]; exact sf (by unfold Tm; omega)
      · rw [if_neg h2, if_neg (by omega : ¬ (0 : Int) > 0)]
        have e : (0 + 1 : Int).toNat = 1 := rfl
        exact sd (by unfold Tm; rw [e]; constructor <;> (intro x; refine ⟨?_, ?_, ?_⟩ <;> simp_all <;> omega))
theorem impl_TermsOk_ev (k : Nat) (l : List Int) (hk : l.length + 1 < k) (hn : l.length ≤ 1048576) : impl_TermsOk.f k l = some (decide (Tm l)) := by
  unfold impl_TermsOk.f
  rw [impl_areTerms_ev k l hk hn]; rfl
theorem FnExactTermsOk : laws_FnExactTermsOk.Pure := by
  intro l _ _ _
  refine ⟨1048579, ?_⟩
  unfold laws_FnExactTermsOk.f
  by_cases h : (l.length : Int) > 1048576
  · rw [if_pos h]
  · rw [if_neg h]
    have hn : l.length ≤ 1048576 := by omega
    simp only [laws_toIntS_ev 1048579 l (by omega) hn, spec_TermsOk_ev 1048579 l (by omega) hn, impl_TermsOk_ev 1048579 l (by omega) hn, laws_eqIntS_ev 1048579 l l (by omega) hn, Option.bind_some]
    simp
end Go.Proofs.Ytapmccfnjlpamaa.Pure
