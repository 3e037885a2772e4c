/- What the walked law FnExactFractionText computes, answers true. -/
import Derived.Test.YtpjiimlcdifneaaDoorPFnExactFractionTextx2
import Derived.OpenShut
import Derived.Lib.ItoaLen
namespace Go.Proofs.YtpjiimlcdifneaaDoor.Pure
open Go.RowKit Go.Proofs.YtpjiimlcdifneaaDoor.PFnExactFractionText Go.Proofs.YtpjiimlcdifneaaDoorW.PrintWords Go.Proofs.YtpjiimlcdifneaaDoorW.PrintLast Go.Proofs.YtpjiimlcdifneaaDoorW.PrintMore
set_option linter.unusedVariables false
set_option linter.unusedSimpArgs false
theorem st {P : Prop} [Decidable P] (h : P) : some true = some (decide P) := by simp [h]
theorem sf {P : Prop} [Decidable P] (h : ¬P) : some false = some (decide P) := by simp [h]
theorem sd {P Q : Prop} [Decidable P] [Decidable Q] (h : P ↔ Q) : some (decide P) = some (decide Q) := by simp [h]
theorem w64 {n : Int} (h : -9223372036854775808 ≤ n ∧ n ≤ 9223372036854775807) : wrap64 n = n := by unfold wrap64; omega
def Fr (u d : Int) : Prop := -1000000 ≤ u ∧ u ≤ 1000000 ∧ 0 ≤ d ∧ d ≤ 1000000 ∧ (d = 0 → u = 1) ∧ (Int.gcd u d = 1)
instance (u d : Int) : Decidable (Fr u d) := by unfold Fr; exact inferInstance
def Pt (n : Int) : Prop := -1000000 ≤ n ∧ n ≤ 1000000
instance (n : Int) : Decidable (Pt n) := by unfold Pt; exact inferInstance
theorem gcd_step (a b : Int) : Int.gcd b (Int.tmod a b) = Int.gcd a b := by
  unfold Int.gcd
  rw [Int.natAbs_tmod, Nat.gcd_comm a.natAbs b.natAbs, Nat.gcd_rec b.natAbs a.natAbs, Nat.gcd_comm]
theorem tmod_lt (a b : Int) (h : b ≠ 0) : (Int.tmod a b).natAbs < b.natAbs := by
  rw [Int.natAbs_tmod]
  exact Nat.mod_lt _ (by omega)
def ofL (l : List UInt8) : ByteArray := ⟨l.toArray⟩
theorem ofL_size (l : List UInt8) : (ofL l).size = l.length := by simp [ofL, ByteArray.size]
theorem ofL_app (l m : List UInt8) : ofL l ++ ofL m = ofL (l ++ m) := by
  apply ByteArray.ext; simp [ofL]
theorem impl_isPart_ev (n : Int) : impl_isPart.f n = some (decide (Pt n)) := by
  unfold impl_isPart.f Pt
  split
  · exact sd (by omega)
  · exact sf (by omega)
theorem spec_l1In_ev (n a b : Int) : spec_l1In.f n a b = some (decide (a ≤ n ∧ n ≤ b)) := by
  unfold spec_l1In.f
  split
  · exact sd (by omega)
  · exact sf (by omega)
theorem impl_gcd_l0 (n : Nat) : ∀ (k : Nat) (a b : Int), b.natAbs ≤ n → n < k → a.natAbs ≤ 4611686018427387904 → b.natAbs ≤ 4611686018427387904 → impl_gcd.l0 k a b = some (Int.gcd a b : Int) := by
  induction n with
  | zero =>
    intro k a b hb hk ha _
    obtain ⟨k, rfl⟩ : ∃ m, k = m + 1 := ⟨k - 1, by omega⟩
    have hb0 : b = 0 := by omega
    simp only [impl_gcd.l0]
    rw [if_pos hb0, w64 (by omega), hb0, Int.gcd_zero_right]
    unfold mx; congr 1; split <;> omega
  | succ n ih =>
    intro k a b hb hk ha hb'
    obtain ⟨k, rfl⟩ : ∃ m, k = m + 1 := ⟨k - 1, by omega⟩
    simp only [impl_gcd.l0]
    by_cases h : b = 0
    · rw [if_pos h, w64 (by omega), h, Int.gcd_zero_right]
      unfold mx; congr 1; split <;> omega
    · rw [if_neg h]
      have := tmod_lt a b h
      rw [ih k b (Int.tmod a b) (by omega) (by omega) (by omega) (by omega), gcd_step]
theorem impl_gcd_ev (k : Nat) (hk : 1000002 ≤ k) (a b : Int) (ha : Pt a) (hb : Pt b) : impl_gcd.f k a b = some (Int.gcd a b : Int) := by
  unfold Pt at ha hb
  exact impl_gcd_l0 1000001 k a b (by omega) (by omega) (by omega) (by omega)
theorem spec_l1Common_l0 (n : Nat) : ∀ (k : Nat) (a b : Int), 0 ≤ a → 0 ≤ b → b.natAbs ≤ n → n < k → spec_l1Common.l0 k a b = some (Int.gcd a b : Int) := by
  induction n with
  | zero =>
    intro k a b ha hb0 hb hk
    obtain ⟨k, rfl⟩ : ∃ m, k = m + 1 := ⟨k - 1, by omega⟩
    have hb0 : b = 0 := by omega
    subst hb0
    simp only [spec_l1Common.l0]
    rw [if_neg (by omega), Int.gcd_zero_right]
    congr 1; omega
  | succ n ih =>
    intro k a b ha hb0 hb hk
    obtain ⟨k, rfl⟩ : ∃ m, k = m + 1 := ⟨k - 1, by omega⟩
    simp only [spec_l1Common.l0]
    by_cases h : b = 0
    · subst h
      rw [if_neg (by omega), Int.gcd_zero_right]
      congr 1; omega
    · rw [if_pos (by omega), if_neg h]
      have := tmod_lt a b h
      have h2 := Int.tmod_nonneg b ha
      rw [ih k b (Int.tmod a b) hb0 h2 (by omega) (by omega), gcd_step]
theorem mx_abs (a : Int) (h : Pt a) : mx a (wrap64 (-a)) = (a.natAbs : Int) := by
  unfold Pt at h
  rw [w64 (by omega)]
  unfold mx; split <;> omega
theorem spec_l1Common_ev (k : Nat) (hk : 1000002 ≤ k) (a b : Int) (ha : Pt a) (hb : Pt b) : spec_l1Common.f k a b = some (Int.gcd a b : Int) := by
  unfold spec_l1Common.f
  rw [mx_abs a ha, mx_abs b hb, spec_l1Common_l0 1000001 k _ _ (by omega) (by omega) (by unfold Pt at hb; omega) (by omega)]
  rfl
theorem impl_isFraction_ev (k : Nat) (hk : 1000002 ≤ k) (u d : Int) : impl_isFraction.f k u d = some (decide (Fr u d)) := by
  unfold impl_isFraction.f
  simp only [impl_isPart_ev, Option.bind_some, decide_eq_true_eq]
  by_cases hu : Pt u
  · rw [if_pos hu]
    by_cases h1 : d < 0
    · rw [if_pos h1]; exact sf (by intro h; unfold Fr at h; omega)
    · rw [if_neg h1]
      by_cases h2 : d > 1000000
      · rw [if_pos h2]; exact sf (by intro h; unfold Fr at h; omega)
      · rw [if_neg h2]
        have hd : Pt d := by unfold Pt; omega
        rw [impl_gcd_ev k hk u d hu hd]
        unfold Pt at hu
        have e : ((Int.gcd u d : Int) == 1) = decide (Int.gcd u d = 1) := by rw [Bool.eq_iff_iff]; simp; omega
        simp only [Option.bind_some, e]
        by_cases h3 : d = 0
        · rw [if_pos h3]
          by_cases h4 : u = 1
          · rw [if_pos h4]; exact sd (by unfold Fr; omega)
          · rw [if_neg h4]; exact sf (by intro h; unfold Fr at h; omega)
        · rw [if_neg h3]; exact sd (by unfold Fr; omega)
  · rw [if_neg hu]; exact sf (by intro h; unfold Fr at h; unfold Pt at hu; omega)
theorem spec_FractionOk_ev (k : Nat) (hk : 1000002 ≤ k) (u d : Int) : spec_FractionOk.f k u d = some (decide (Fr u d)) := by
  unfold spec_FractionOk.f
  simp only [spec_l1In_ev, Option.bind_some, decide_eq_true_eq]
  by_cases hu : -1000000 ≤ u ∧ u ≤ 1000000
  · rw [if_pos hu]
    by_cases hd : 0 ≤ d ∧ d ≤ 1000000
    · rw [if_pos hd, spec_l1Common_ev k hk u d hu (by unfold Pt; omega)]
      simp only [Option.bind_some]
      by_cases h1 : (Int.gcd u d : Int) = 1
      · rw [if_pos h1]
        by_cases h3 : d > 0
        · rw [if_pos h3]; exact st (by unfold Fr; omega)
        · rw [if_neg h3]
          have e : (u == 1) = decide (u = 1) := by rw [Bool.eq_iff_iff]; simp
          rw [e]; exact sd (by unfold Fr; omega)
      · rw [if_neg h1]; exact sf (by intro h; unfold Fr at h; omega)
    · rw [if_neg hd]; exact sf (by intro h; unfold Fr at h; omega)
  · rw [if_neg hu]; exact sf (by intro h; unfold Fr at h; omega)
theorem laws_toFraction_ev (a b : Int) : laws_toFraction.f a b = some (a, b) := rfl
theorem strOf_one (x : Int) (h : 0 ≤ x ∧ x < 256) : strOfNums [x] = ofL [UInt8.ofNat x.toNat] := rfl
theorem l1Number_nat (u : Nat) : ∀ k : Nat, 2 * u + 4 ≤ k → u ≤ 100000000 → spec_l1Number.f k (u : Int) = some (ofL (Lib.decDigits u)) := by
  induction u using Nat.strongRecOn with
  | ind u ih =>
    intro k hk hu
    obtain ⟨k, rfl⟩ : ∃ m, k = m + 2 := ⟨k - 2, by omega⟩
    rw [spec_l1Number.f.eq_2, if_neg (by omega), spec_l1Number.j0.eq_2, if_neg (by simp), if_neg (by omega)]
    by_cases h : u < 10
    · rw [if_pos (by omega), w64 (by omega), strOf_one _ (by omega), Lib.decDigits_one h]
      have e : ((48 + (u : Int)) % 256).toNat = 48 + u := by omega
      rw [e]
    · have e1 : Int.tdiv (u : Int) 10 = ((u / 10 : Nat) : Int) := by rw [Int.tdiv_eq_ediv_of_nonneg (by omega)]; omega
      have e2 : Int.tmod (u : Int) 10 = ((u % 10 : Nat) : Int) := by rw [Int.tmod_eq_emod_of_nonneg (by omega)]; omega
      rw [if_neg (by omega), e1, w64 (by omega), ih (u / 10) (by omega) k (by omega) (by omega), e2, w64 (by omega)]
      have e3 : ((48 + ((u % 10 : Nat) : Int)) % 256).toNat = 48 + u % 10 := by omega
      have e4 : Lib.decDigits u = Lib.decDigits (u / 10) ++ [UInt8.ofNat (48 + u % 10)] := by rw [Lib.decDigits, dif_neg h]
      have hl : (Lib.decDigits (u / 10)).length ≤ 21 := by
        have h1 := Lib.itoa_length_le ((u / 10 : Nat) : Int) (by omega) (by omega)
        rw [Lib.itoa_nonneg] at h1
        exact h1
      simp only [Option.bind_some]
      rw [strOf_one _ (by omega), e3, if_pos (by rw [ofL_size, ofL_size]; simp; omega), ofL_app, e4]
theorem spec_l1Number_ev (k : Nat) (n : Int) (hk : 2000020 ≤ k) (hn : -1000000 ≤ n ∧ n ≤ 1000000) : spec_l1Number.f k n = some (ofL (Lib.itoa n)) := by
  by_cases h : n < 0
  · obtain ⟨u, rfl⟩ : ∃ u : Nat, n = -(u : Int) := ⟨n.natAbs, by omega⟩
    obtain ⟨k, rfl⟩ : ∃ m, k = m + 2 := ⟨k - 2, by omega⟩
    have e0 : wrap64 (-(-(u : Int))) = (u : Int) := by rw [w64 (by omega)]; omega
    have e1 : ((-(u : Int)) == (u : Int)) = false := by rw [beq_eq_false_iff_ne]; omega
    have hl : (Lib.decDigits u).length ≤ 21 := by
      have h1 := Lib.itoa_length_le (u : Int) (by omega) (by omega)
      rw [Lib.itoa_nonneg] at h1
      exact h1
    have e2 : (⟨#[45]⟩ : ByteArray) ++ ofL (Lib.decDigits u) = ofL (45 :: Lib.decDigits u) := ofL_app [45] _
    rw [spec_l1Number.f.eq_2, if_pos h, e0, e1, spec_l1Number.j0.eq_2, if_neg (by simp), if_pos h, e0, l1Number_nat u k (by omega) (by omega), Option.bind_some, if_pos (by rw [ofL_size]; omega), e2, Lib.itoa_neg u (by omega)]
  · obtain ⟨u, rfl⟩ : ∃ u : Nat, n = (u : Int) := ⟨n.toNat, by omega⟩
    rw [Lib.itoa_nonneg]
    exact l1Number_nat u k (by omega) (by omega)
def frT (u d : Int) : List UInt8 := if d = 1 then Lib.itoa u else Lib.itoa u ++ (47 :: Lib.itoa d)
theorem itoa_len (n : Int) (hn : -1000000 ≤ n ∧ n ≤ 1000000) : (Lib.itoa n).length ≤ 21 := Lib.itoa_length_le n (by omega) (by omega)
theorem frT_app (u d : Int) : ofL (Lib.itoa u) ++ (⟨#[47]⟩ : ByteArray) ++ ofL (Lib.itoa d) = ofL (Lib.itoa u ++ (47 :: Lib.itoa d)) := by
  have e : (⟨#[47]⟩ : ByteArray) = ofL [47] := rfl
  rw [e, ofL_app, ofL_app]
  simp
theorem spec_FractionText_ev (k : Nat) (hk : 2000020 ≤ k) (u d : Int) : spec_FractionText.f k u d = some (if Fr u d then ofL (frT u d) else ofL []) := by
  unfold spec_FractionText.f
  rw [spec_FractionOk_ev k (by omega), Option.bind_some]
  simp only [decide_eq_true_eq]
  by_cases h : Fr u d
  · have hu : -1000000 ≤ u ∧ u ≤ 1000000 := ⟨h.1, h.2.1⟩
    have hd : -1000000 ≤ d ∧ d ≤ 1000000 := by have := h.2.2.1; have := h.2.2.2.1; omega
    have l1 := itoa_len u hu
    have l2 := itoa_len d hd
    rw [if_pos h, if_pos h, spec_l1Number_ev k u hk hu]
    unfold frT
    by_cases h1 : d = 1
    · rw [if_pos h1, if_pos h1]; rfl
    · rw [if_neg h1, if_neg h1, Option.bind_some, if_pos (by rw [ofL_size]; omega), spec_l1Number_ev k d hk hd, Option.bind_some, if_pos (by rw [ByteArray.size_append, ofL_size, ofL_size]; show _ + 1 + _ ≤ _; omega), frT_app]
  · rw [if_neg h, if_neg h]; rfl
theorem itoa_ev (n : Int) (hn : -1000000 ≤ n ∧ n ≤ 1000000) : strconv_Itoa.f n = some (ofL (Lib.itoa n)) := by
  unfold strconv_Itoa.f
  rw [if_pos (by omega)]; rfl
theorem impl_fractionText_ev (u d : Int) (hu : -1000000 ≤ u ∧ u ≤ 1000000) (hd : -1000000 ≤ d ∧ d ≤ 1000000) : impl_fractionText.f u d = some (ofL (frT u d)) := by
  unfold impl_fractionText.f frT
  have l1 := itoa_len u hu
  have l2 := itoa_len d hd
  rw [itoa_ev u hu]
  by_cases h1 : d = 1
  · rw [if_pos h1, if_pos h1]; rfl
  · rw [if_neg h1, if_neg h1, Option.bind_some, if_pos (by rw [ofL_size]; omega), itoa_ev d hd, Option.bind_some, if_pos (by rw [ByteArray.size_append, ofL_size, ofL_size]; show _ + 1 + _ ≤ _; omega), frT_app]
theorem impl_FractionText_ev (k : Nat) (hk : 1000003 ≤ k) (u d : Int) : impl_FractionText.f k u d = some (if Fr u d then ofL (frT u d) else ofL []) := by
  unfold impl_FractionText.f
  rw [impl_isFraction_ev k (by omega), Option.bind_some]
  simp only [decide_eq_true_eq]
  by_cases h : Fr u d
  · have hu : -1000000 ≤ u ∧ u ≤ 1000000 := ⟨h.1, h.2.1⟩
    have hd : -1000000 ≤ d ∧ d ≤ 1000000 := by have := h.2.2.1; have := h.2.2.2.1; omega
    rw [if_pos h, if_pos h, impl_fractionText_ev u d hu hd]; rfl
  · rw [if_neg h, if_neg h]; rfl
theorem FnExactFractionText (u d : Int) (wu : (Lit.int .i64 u).wf = true) (wd : (Lit.int .i64 d).wf = true) : ∃ k, laws_FnExactFractionText.f k u d = some true := by
  refine ⟨3000000, ?_⟩
  unfold laws_FnExactFractionText.f
  simp only [laws_toFraction_ev, Option.bind_some]
  rw [spec_FractionText_ev _ (by omega), impl_FractionText_ev _ (by omega)]
  simp
end Go.Proofs.YtpjiimlcdifneaaDoor.Pure
