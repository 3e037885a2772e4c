/- What the walked law FnExactDanceFor computes, answers true. -/
import Derived.Test.YtpjiimlcdifneaaPFnExactDanceForx3
import Derived.OpenShut
namespace Go.Proofs.Ytpjiimlcdifneaa.Pure
open Go.RowKit Go.Proofs.Ytpjiimlcdifneaa.PFnExactDanceFor Go.Proofs.YtpjiimlcdifneaaW.PrintWords Go.Proofs.YtpjiimlcdifneaaW.PrintLast Go.Proofs.YtpjiimlcdifneaaW.PrintMore
set_option linter.unusedVariables false
set_option linter.unusedSimpArgs false
theorem st {P : Prop} [Decidable P] (h : P) : some true = some (decide P) := by simp [h]
theorem sf {P : Prop} [Decidable P] (h : ¬P) : some false = some (decide P) := by simp [h]
theorem sd {P Q : Prop} [Decidable P] [Decidable Q] (h : P ↔ Q) : some (decide P) = some (decide Q) := by simp [h]
theorem w64 {n : Int} (h : -9223372036854775808 ≤ n ∧ n ≤ 9223372036854775807) : wrap64 n = n := by unfold wrap64; omega
def Fr (u d : Int) : Prop := -1000000 ≤ u ∧ u ≤ 1000000 ∧ 0 ≤ d ∧ d ≤ 1000000 ∧ (d = 0 → u = 1) ∧ (Int.gcd u d = 1)
instance (u d : Int) : Decidable (Fr u d) := by unfold Fr; exact inferInstance
def Pt (n : Int) : Prop := -1000000 ≤ n ∧ n ≤ 1000000
instance (n : Int) : Decidable (Pt n) := by unfold Pt; exact inferInstance
theorem gcd_step (a b : Int) : Int.gcd b (Int.tmod a b) = Int.gcd a b := by
  unfold Int.gcd
  rw [Int.natAbs_tmod, Nat.gcd_comm a.natAbs b.natAbs, Nat.gcd_rec b.natAbs a.natAbs, Nat.gcd_comm]
theorem tmod_lt (a b : Int) (h : b ≠ 0) : (Int.tmod a b).natAbs < b.natAbs := by
  rw [Int.natAbs_tmod]
  exact Nat.mod_lt _ (by omega)
theorem tdiv_le (a b : Int) : (Int.tdiv a b).natAbs ≤ a.natAbs := by
  rw [Int.natAbs_tdiv]
  exact Nat.div_le_self _ _
theorem mulb {a b : Int} (ha : Pt a) (hb : Pt b) : -1000000000000 ≤ a * b ∧ a * b ≤ 1000000000000 := by
  unfold Pt at ha hb
  have h1 : a.natAbs ≤ 1000000 := by omega
  have h2 : b.natAbs ≤ 1000000 := by omega
  have := Nat.mul_le_mul h1 h2
  rw [← Int.natAbs_mul] at this
  omega
theorem ltge (a b : Int) : a < b ∨ b ≤ a := by omega
def t2 (n : Int) : Bool := decide (2 ≤ n ∧ n ≤ 60)
def ofL (l : List UInt8) : ByteArray := ⟨l.toArray⟩
theorem ofL_size (l : List UInt8) : (ofL l).size = l.length := by simp [ofL, ByteArray.size]
theorem ofL_app (l m : List UInt8) : ofL l ++ ofL m = ofL (l ++ m) := by
  apply ByteArray.ext; simp [ofL]
theorem ofL_data (l : List UInt8) : (ofL l).data.toList = l := by simp [ofL]
theorem rd_eq (xs : List Int) (i : Int) (h0 : 0 ≤ i) (h : i.toNat < xs.length) : rd xs i = xs[i.toNat] := by unfold rd; simp [h]
theorem impl_isPart_ev (n : Int) : impl_isPart.f n = some (decide (Pt n)) := by
  unfold impl_isPart.f Pt
  split
  · exact sd (by omega)
  · exact sf (by omega)
theorem spec_l1In_ev (n a b : Int) : spec_l1In.f n a b = some (decide (a ≤ n ∧ n ≤ b)) := by
  unfold spec_l1In.f
  split
  · exact sd (by omega)
  · exact sf (by omega)
theorem impl_gcd_l0 (n : Nat) : ∀ (k : Nat) (a b : Int), b.natAbs ≤ n → n < k → a.natAbs ≤ 4611686018427387904 → b.natAbs ≤ 4611686018427387904 → impl_gcd.l0 k a b = some (Int.gcd a b : Int) := by
  induction n with
  | zero =>
    intro k a b hb hk ha _
    obtain ⟨k, rfl⟩ : ∃ m, k = m + 1 := ⟨k - 1, by omega⟩
    have hb0 : b = 0 := by omega
    simp only [impl_gcd.l0]
    rw [if_pos hb0, w64 (by omega), hb0, Int.gcd_zero_right]
    unfold mx; congr 1; split <;> omega
  | succ n ih =>
    intro k a b hb hk ha hb'
    obtain ⟨k, rfl⟩ : ∃ m, k = m + 1 := ⟨k - 1, by omega⟩
    simp only [impl_gcd.l0]
    by_cases h : b = 0
    · rw [if_pos h, w64 (by omega), h, Int.gcd_zero_right]
      unfold mx; congr 1; split <;> omega
    · rw [if_neg h]
      have := tmod_lt a b h
      rw [ih k b (Int.tmod a b) (by omega) (by omega) (by omega) (by omega), gcd_step]
theorem impl_gcd_ev (k : Nat) (hk : 1000002 ≤ k) (a b : Int) (ha : Pt a) (hb : Pt b) : impl_gcd.f k a b = some (Int.gcd a b : Int) := by
  unfold Pt at ha hb
  exact impl_gcd_l0 1000001 k a b (by omega) (by omega) (by omega) (by omega)
theorem spec_l1Common_l0 (n : Nat) : ∀ (k : Nat) (a b : Int), 0 ≤ a → 0 ≤ b → b.natAbs ≤ n → n < k → spec_l1Common.l0 k a b = some (Int.gcd a b : Int) := by
  induction n with
  | zero =>
    intro k a b ha hb0 hb hk
    obtain ⟨k, rfl⟩ : ∃ m, k = m + 1 := ⟨k - 1, by omega⟩
    have hb0 : b = 0 := by omega
    subst hb0
    simp only [spec_l1Common.l0]
    rw [if_neg (by omega), Int.gcd_zero_right]
    congr 1; omega
  | succ n ih =>
    intro k a b ha hb0 hb hk
    obtain ⟨k, rfl⟩ : ∃ m, k = m + 1 := ⟨k - 1, by omega⟩
    simp only [spec_l1Common.l0]
    by_cases h : b = 0
    · subst h
      rw [if_neg (by omega), Int.gcd_zero_right]
      congr 1; omega
    · rw [if_pos (by omega), if_neg h]
      have := tmod_lt a b h
      have h2 := Int.tmod_nonneg b ha
      rw [ih k b (Int.tmod a b) hb0 h2 (by omega) (by omega), gcd_step]
theorem mx_abs (a : Int) (h : Pt a) : mx a (wrap64 (-a)) = (a.natAbs : Int) := by
  unfold Pt at h
  rw [w64 (by omega)]
  unfold mx; split <;> omega
theorem spec_l1Common_ev (k : Nat) (hk : 1000002 ≤ k) (a b : Int) (ha : Pt a) (hb : Pt b) : spec_l1Common.f k a b = some (Int.gcd a b : Int) := by
  unfold spec_l1Common.f
  rw [mx_abs a ha, mx_abs b hb, spec_l1Common_l0 1000001 k _ _ (by omega) (by omega) (by unfold Pt at hb; omega) (by omega)]
  rfl
theorem impl_isFraction_ev (k : Nat) (hk : 1000002 ≤ k) (u d : Int) : impl_isFraction.f k u d = some (decide (Fr u d)) := by
  unfold impl_isFraction.f
  simp only [impl_isPart_ev, Option.bind_some, decide_eq_true_eq]
  by_cases hu : Pt u
  · rw [if_pos hu]
    by_cases h1 : d < 0
    · rw [if_pos h1]; exact sf (by intro h; unfold Fr at h; omega)
    · rw [if_neg h1]
      by_cases h2 : d > 1000000
      · rw [if_pos h2]; exact sf (by intro h; unfold Fr at h; omega)
      · rw [if_neg h2]
        have hd : Pt d := by unfold Pt; omega
        rw [impl_gcd_ev k hk u d hu hd]
        unfold Pt at hu
        have e : ((Int.gcd u d : Int) == 1) = decide (Int.gcd u d = 1) := by rw [Bool.eq_iff_iff]; simp; omega
        simp only [Option.bind_some, e]
        by_cases h3 : d = 0
        · rw [if_pos h3]
          by_cases h4 : u = 1
          · rw [if_pos h4]; exact sd (by unfold Fr; omega)
          · rw [if_neg h4]; exact sf (by intro h; unfold Fr at h; omega)
        · rw [if_neg h3]; exact sd (by unfold Fr; omega)
  · rw [if_neg hu]; exact sf (by intro h; unfold Fr at h; unfold Pt at hu; omega)
theorem spec_FractionOk_ev (k : Nat) (hk : 1000002 ≤ k) (u d : Int) : spec_FractionOk.f k u d = some (decide (Fr u d)) := by
  unfold spec_FractionOk.f
  simp only [spec_l1In_ev, Option.bind_some, decide_eq_true_eq]
  by_cases hu : -1000000 ≤ u ∧ u ≤ 1000000
  · rw [if_pos hu]
    by_cases hd : 0 ≤ d ∧ d ≤ 1000000
    · rw [if_pos hd, spec_l1Common_ev k hk u d hu (by unfold Pt; omega)]
      simp only [Option.bind_some]
      by_cases h1 : (Int.gcd u d : Int) = 1
      · rw [if_pos h1]
        by_cases h3 : d > 0
        · rw [if_pos h3]; exact st (by unfold Fr; omega)
        · rw [if_neg h3]
          have e : (u == 1) = decide (u = 1) := by rw [Bool.eq_iff_iff]; simp
          rw [e]; exact sd (by unfold Fr; omega)
      · rw [if_neg h1]; exact sf (by intro h; unfold Fr at h; omega)
    · rw [if_neg hd]; exact sf (by intro h; unfold Fr at h; omega)
  · rw [if_neg hu]; exact sf (by intro h; unfold Fr at h; omega)
theorem laws_toFraction_ev (a b : Int) : laws_toFraction.f a b = some (a, b) := rfl
theorem impl_isSmall_ev (k : Nat) (hk : 1000002 ≤ k) (u d n : Int) (hn : 0 ≤ n ∧ n ≤ 1000000) : impl_isSmall.f k u d n = some (decide (Fr u d ∧ -n ≤ u ∧ u ≤ n ∧ d ≤ n)) := by
  unfold impl_isSmall.f
  rw [impl_isFraction_ev k hk, w64 (by omega)]
  simp only [Option.bind_some, decide_eq_true_eq]
  by_cases h : Fr u d
  · rw [if_pos h]
    by_cases h1 : u ≥ -n
    · rw [if_pos h1]
      by_cases h2 : u ≤ n
      · rw [if_pos h2]; exact sd ⟨fun x => ⟨h, h1, h2, x⟩, fun x => x.2.2.2⟩
      · rw [if_neg h2]; exact sf (fun x => h2 x.2.2.1)
    · rw [if_neg h1]; exact sf (fun x => h1 x.2.1)
  · rw [if_neg h]; exact sf (fun x => h x.1)
def ce (u d : Int) : Int := -((-u) / d)
theorem ce_spec {u d : Int} (hd : 0 < d) : 0 ≤ ce u d * d - u ∧ ce u d * d - u < d := by
  have h1 := Int.emod_nonneg (-u) (show d ≠ 0 by omega)
  have h2 := Int.emod_lt_of_pos (-u) hd
  have h3 := Int.mul_ediv_add_emod (-u) d
  unfold ce
  rw [Int.neg_mul, Int.mul_comm]
  omega
theorem ce_unique {u d c : Int} (hd : 0 < d) (h0 : 0 ≤ c * d - u) (h1 : c * d - u < d) : c = ce u d := by
  have h2 := ce_spec (u := u) hd
  rcases ltge c (ce u d) with h | h
  · have : (c + 1) * d ≤ ce u d * d := Int.mul_le_mul_of_nonneg_right (by omega) (by omega)
    rw [Int.add_mul, Int.one_mul] at this
    omega
  · by_cases e : c = ce u d
    · exact e
    · have : (ce u d + 1) * d ≤ c * d := Int.mul_le_mul_of_nonneg_right (by omega) (by omega)
      rw [Int.add_mul, Int.one_mul] at this
      omega
theorem tdiv_facts (u d : Int) (hd : 0 < d) : (0 ≤ u → 0 ≤ u - Int.tdiv u d * d ∧ u - Int.tdiv u d * d < d) ∧ (u < 0 → 0 ≤ Int.tdiv u d * d - u ∧ Int.tdiv u d * d - u < d) := by
  have h := Int.mul_tdiv_add_tmod u d
  rw [Int.mul_comm] at h
  constructor
  · intro hu
    have h1 := Int.tmod_nonneg d hu
    have h2 := Int.tmod_lt_of_pos u hd
    omega
  · intro hu
    have h1 := Int.tmod_nonneg d (show 0 ≤ -u by omega)
    have h2 := Int.tmod_lt_of_pos (-u) hd
    rw [Int.neg_tmod] at h1 h2
    omega
theorem ce_bd {u d n : Int} (hd : 0 < d) (h : -n ≤ u ∧ u ≤ n) (hn : 0 ≤ n) : -n ≤ ce u d ∧ ce u d ≤ n := by
  have h2 := ce_spec (u := u) hd
  constructor
  · rcases ltge (ce u d) (-n) with h' | h'
    · exfalso
      have t1 : ce u d * d ≤ (-n - 1) * d := Int.mul_le_mul_of_nonneg_right (by omega) (by omega)
      have t2 : (-n - 1) * d ≤ (-n - 1) * 1 := Int.mul_le_mul_of_nonpos_left (by omega) (by omega)
      omega
    · exact h'
  · rcases ltge n (ce u d) with h' | h'
    · exfalso
      have t1 : (n + 1) * d ≤ ce u d * d := Int.mul_le_mul_of_nonneg_right (by omega) (by omega)
      rw [Int.add_mul, Int.one_mul] at t1
      have t2 : n * 1 ≤ n * d := Int.mul_le_mul_of_nonneg_left (by omega) hn
      omega
    · exact h'
theorem impl_ceiling_ev (u d : Int) (hd : 0 < d) (hb : d ≤ 1000) (hu : -1000 ≤ u ∧ u ≤ 1000) : impl_ceiling.f u d = some (ce u d) := by
  unfold impl_ceiling.f
  have b := tdiv_le u d
  have f := tdiv_facts u d hd
  have w1 : wrap64 (Int.tdiv u d) = Int.tdiv u d := w64 (by omega)
  have pm := mulb (a := Int.tdiv u d) (b := d) (by unfold Pt; omega) (by unfold Pt; omega)
  have w2 : wrap64 (Int.tdiv u d * d) = Int.tdiv u d * d := w64 (by omega)
  rw [if_neg (by omega), w1, w2]
  by_cases h : Int.tdiv u d * d < u
  · rw [if_pos h, w64 (by omega)]
    congr 1
    refine ce_unique hd ?_ ?_ <;> rw [Int.add_mul, Int.one_mul]
    · have h' : 0 ≤ u := by
        rcases ltge u 0 with x | x
        · have := f.2 x; omega
        · exact x
      have := f.1 h'
      omega
    · omega
  · rw [if_neg h]
    congr 1
    refine ce_unique hd (by omega) ?_
    rcases ltge u 0 with x | x
    · have := f.2 x; omega
    · have := f.1 x; omega
theorem spec_l4Over_ev (u d : Int) (hd : 0 < d) (hb : d ≤ 1000) (hu : -1000 ≤ u ∧ u ≤ 1000) : spec_l4Over.f u d = some (ce u d) := by
  unfold spec_l4Over.f spec_l3Under.f
  have b := tdiv_le (-u) d
  have f := tdiv_facts (-u) d hd
  have w0 : wrap64 (-u) = -u := w64 (by omega)
  rw [w0]
  have w1 : wrap64 (Int.tdiv (-u) d) = Int.tdiv (-u) d := w64 (by omega)
  have pm := mulb (a := Int.tdiv (-u) d) (b := d) (by unfold Pt; omega) (by unfold Pt; omega)
  have w2 : wrap64 (Int.tdiv (-u) d * d) = Int.tdiv (-u) d * d := w64 (by omega)
  rw [if_neg (by omega), w1, w2]
  by_cases h : Int.tdiv (-u) d * d > -u
  · rw [if_pos h, w64 (by omega)]
    simp only [Option.bind_some]
    rw [w64 (by omega)]
    congr 1
    refine ce_unique hd ?_ ?_ <;> rw [Int.neg_mul, Int.sub_mul, Int.one_mul]
    · have h' : -u < 0 := by
        rcases ltge (-u) 0 with x | x
        · exact x
        · have := f.1 x; omega
      have := f.2 h'
      omega
    · omega
  · rw [if_neg h]
    simp only [Option.bind_some]
    rw [w64 (by omega)]
    congr 1
    refine ce_unique hd ?_ ?_ <;> rw [Int.neg_mul]
    · omega
    · rcases ltge (-u) 0 with x | x
      · have := f.2 x; omega
      · have := f.1 x; omega
def teL : Nat → Int → Int → List Int
  | 0, _, _ => []
  | n + 1, u, d => if ce u d * d - u = 0 then [ce u d] else ce u d :: teL n d (ce u d * d - u)
theorem impl_termsOf_l0 (n : Nat) : ∀ (k : Nat) (l : List Int) (u d : Int), n < k → 0 < d → d ≤ n → d ≤ 60 → -60 ≤ u → u ≤ 60 → l.length + n ≤ 1000 → impl_termsOf.l0 k l u d = some (l ++ teL n u d) := by
  induction n with
  | zero => intro k l u d hk h0 h1; omega
  | succ n ih =>
    intro k l u d hk h0 h1 h2 h3 h4 h5
    obtain ⟨k, rfl⟩ : ∃ m, k = m + 1 := ⟨k - 1, by omega⟩
    simp only [impl_termsOf.l0, teL]
    have hc := ce_spec (u := u) h0
    have hb := ce_bd (n := 60) h0 ⟨h3, h4⟩ (by omega)
    have pm := mulb (a := ce u d) (b := d) (by unfold Pt; omega) (by unfold Pt; omega)
    rw [impl_ceiling_ev u d h0 (by omega) (by omega)]
    simp only [Option.bind_some]
    rw [if_pos (by omega), w64 (by omega : -9223372036854775808 ≤ ce u d * d ∧ _), w64 (by omega)]
    by_cases hz : ce u d * d - u = 0
    · rw [if_pos hz, if_pos hz]
    · rw [if_neg hz, if_neg hz, ih k _ _ _ (by omega) (by omega) (by omega) (by omega) (by omega) (by omega) (by simp; omega)]
      simp
theorem impl_termsOf_ev (k : Nat) (hk : 70 ≤ k) (u d : Int) (h0 : 0 < d) (h2 : d ≤ 60) (h3 : -60 ≤ u ∧ u ≤ 60) : impl_termsOf.f k u d = some (teL 60 u d) := by
  unfold impl_termsOf.f
  have := impl_termsOf_l0 60 k [] u d (by omega) h0 (by omega) h2 h3.1 h3.2 (by simp)
  simpa using this
theorem spec_l4Terms_l0 (n : Nat) : ∀ (k : Nat) (l : List Int) (u d : Int), n + 1 < k → 0 < d → d ≤ n → d ≤ 60 → -60 ≤ u → u ≤ 60 → l.length + n ≤ 1000 → spec_l4Terms.l0 k l u d = some (l ++ teL n u d) := by
  induction n with
  | zero => intro k l u d hk h0 h1; omega
  | succ n ih =>
    intro k l u d hk h0 h1 h2 h3 h4 h5
    obtain ⟨k, rfl⟩ : ∃ m, k = m + 1 := ⟨k - 1, by omega⟩
    simp only [spec_l4Terms.l0, teL]
    have hc := ce_spec (u := u) h0
    have hb := ce_bd (n := 60) h0 ⟨h3, h4⟩ (by omega)
    have pm := mulb (a := ce u d) (b := d) (by unfold Pt; omega) (by unfold Pt; omega)
    rw [if_pos h0, spec_l4Over_ev u d h0 (by omega) (by omega)]
    simp only [Option.bind_some]
    rw [if_pos (by omega), w64 (by omega : -9223372036854775808 ≤ ce u d * d ∧ _), w64 (by omega)]
    by_cases hz : ce u d * d - u = 0
    · rw [if_pos hz, hz]
      obtain ⟨k, rfl⟩ : ∃ m, k = m + 1 := ⟨k - 1, by omega⟩
      simp only [spec_l4Terms.l0]
      rw [if_neg (by omega)]
    · rw [if_neg hz, ih k _ _ _ (by omega) (by omega) (by omega) (by omega) (by omega) (by omega) (by simp; omega)]
      simp
theorem teL_len (n : Nat) : ∀ (u d : Int), 0 < d → d ≤ n → ((teL n u d).length : Int) ≤ d ∧ 1 ≤ (teL n u d).length := by
  induction n with
  | zero => intro u d h0 h1; omega
  | succ n ih =>
    intro u d h0 h1
    have hc := ce_spec (u := u) h0
    simp only [teL]
    by_cases hz : ce u d * d - u = 0
    · rw [if_pos hz]; simp; omega
    · rw [if_neg hz]
      have := ih d (ce u d * d - u) (by omega) (by omega)
      simp
      omega
def twL (a : Int) : List UInt8 := List.replicate a.toNat 84 ++ List.replicate (-a).toNat 116
theorem twL_len (a n : Int) (h : -n ≤ a ∧ a ≤ n) : ((twL a).length : Int) ≤ n := by
  unfold twL; simp; omega
def dfA : Nat → List Int → List UInt8
  | 0, _ => []
  | n + 1, l => twL (rd l (n : Int)) ++ ((if 0 < n then [82] else []) ++ dfA n l)
theorem rep_snoc (n : Nat) (c : UInt8) (m : List UInt8) : m ++ [c] ++ List.replicate n c = m ++ List.replicate (n + 1) c := by
  rw [List.replicate_succ]; simp
theorem teL_bd (n : Nat) : ∀ (u d : Int), 0 < d → d ≤ n → n ≤ 60 → -60 ≤ u → u ≤ 60 → ∀ x ∈ teL n u d, -60 ≤ x ∧ x ≤ 60 := by
  induction n with
  | zero => intro u d h0 h1; omega
  | succ n ih =>
    intro u d h0 h1 h2 h3 h4 x hx
    have hc := ce_spec (u := u) h0
    have hb := ce_bd (n := 60) h0 ⟨h3, h4⟩ (by omega)
    simp only [teL] at hx
    split at hx
    · simp at hx; omega
    · rcases List.mem_cons.1 hx with h | h
      · rw [h]; exact hb
      · exact ih d (ce u d * d - u) (by omega) (by omega) (by omega) (by omega) (by omega) x h
theorem rd_bd (l : List Int) (n : Int) (h : ∀ x ∈ l, -n ≤ x ∧ x ≤ n) (i : Nat) (hi : i < l.length) : -n ≤ rd l (i : Int) ∧ rd l (i : Int) ≤ n := by
  rw [rd_eq l (i : Int) (by omega) (by omega)]
  exact h _ (List.getElem_mem _)
theorem spec_l4Twists_l1 (a : Int) (ha : -1000 ≤ a ∧ a ≤ 1000) (n : Nat) : ∀ (k : Nat) (l : List UInt8) (j : Int), n < k → 0 ≤ j → (-a - j).toNat = n → l.length + n ≤ 5000000 → spec_l4Twists.l1 k a (ofL l) j = some (ofL (l ++ List.replicate n 116)) := by
  induction n with
  | zero =>
    intro k l j hk h0 hn hl
    obtain ⟨k, rfl⟩ : ∃ m, k = m + 1 := ⟨k - 1, by omega⟩
    simp only [spec_l4Twists.l1]
    rw [w64 (by omega), if_neg (by omega)]
    simp
  | succ n ih =>
    intro k l j hk h0 hn hl
    obtain ⟨k, rfl⟩ : ∃ m, k = m + 1 := ⟨k - 1, by omega⟩
    simp only [spec_l4Twists.l1]
    have e : ofL l ++ (⟨#[116]⟩ : ByteArray) = ofL (l ++ [116]) := ofL_app l [116]
    rw [w64 (by omega), if_pos (by omega), if_pos (by rw [ofL_size]; omega), w64 (by omega), e, ih k _ (j + 1) (by omega) (by omega) (by omega) (by simp; omega), rep_snoc]
theorem spec_l4Twists_l0 (a : Int) (ha : -1000 ≤ a ∧ a ≤ 1000) (n : Nat) : ∀ (k : Nat) (l : List UInt8) (j : Int), n + 1002 < k → 0 ≤ j → (a - j).toNat = n → l.length + n ≤ 4000000 → spec_l4Twists.l0 k a (ofL l) j = some (ofL (l ++ (List.replicate n 84 ++ List.replicate (-a).toNat 116))) := by
  induction n with
  | zero =>
    intro k l j hk h0 hn hl
    obtain ⟨k, rfl⟩ : ∃ m, k = m + 1 := ⟨k - 1, by omega⟩
    simp only [spec_l4Twists.l0]
    rw [if_neg (by omega), spec_l4Twists_l1 a ha (-a).toNat k l 0 (by omega) (by omega) (by omega) (by omega)]
    simp
  | succ n ih =>
    intro k l j hk h0 hn hl
    obtain ⟨k, rfl⟩ : ∃ m, k = m + 1 := ⟨k - 1, by omega⟩
    simp only [spec_l4Twists.l0]
    have e : ofL l ++ (⟨#[84]⟩ : ByteArray) = ofL (l ++ [84]) := ofL_app l [84]
    rw [if_pos (by omega), if_pos (by rw [ofL_size]; omega), w64 (by omega), e, ih k _ (j + 1) (by omega) (by omega) (by omega) (by simp; omega), ← List.append_assoc, ← List.append_assoc, rep_snoc]
theorem spec_l4Twists_ev (k : Nat) (hk : 2100 ≤ k) (a : Int) (ha : -1000 ≤ a ∧ a ≤ 1000) : spec_l4Twists.f k a = some (ofL (twL a)) := by
  unfold spec_l4Twists.f
  have := spec_l4Twists_l0 a ha a.toNat k [] 0 (by omega) (by omega) (by omega) (by simp; omega)
  exact this
theorem dfA_len (n : Nat) (l : List Int) (hl : ∀ x ∈ l, -60 ≤ x ∧ x ≤ 60) (hn : n ≤ l.length) : (dfA n l).length ≤ 61 * n := by
  induction n with
  | zero => simp [dfA]
  | succ n ih =>
    have h1 := twL_len (rd l (n : Int)) 60 (rd_bd l 60 hl n (by omega))
    have h2 := ih (by omega)
    have h3 : (if 0 < n then ([82] : List UInt8) else []).length ≤ 1 := by split <;> simp
    simp only [dfA, List.length_append]
    omega
theorem spec_l4Dance_l0 (l : List Int) (hl : ∀ x ∈ l, -60 ≤ x ∧ x ≤ 60) (n : Nat) : ∀ (k : Nat) (m : List UInt8), n + 2100 ≤ k → n ≤ l.length → n ≤ 1000 → m.length + 61 * n ≤ 1000000 → spec_l4Dance.l0 k l (ofL m) ((n : Int) - 1) = some (ofL (m ++ dfA n l)) := by
  induction n with
  | zero =>
    intro k m hk hn hn2 hm
    obtain ⟨k, rfl⟩ : ∃ j, k = j + 1 := ⟨k - 1, by omega⟩
    simp only [spec_l4Dance.l0]
    rw [if_neg (by omega)]
    simp [dfA]
  | succ n ih =>
    intro k m hk hn hn2 hm
    obtain ⟨k, rfl⟩ : ∃ j, k = j + 1 := ⟨k - 1, by omega⟩
    simp only [spec_l4Dance.l0]
    have e : ((n + 1 : Nat) : Int) - 1 = (n : Int) := by omega
    have hb := rd_bd l 60 hl n (by omega)
    have h1 := twL_len (rd l (n : Int)) 60 hb
    rw [e, if_pos (by omega), if_pos (by omega), if_pos (by omega), spec_l4Twists_ev k (by omega) _ (by omega), w64 (by omega)]
    rw [Option.bind_some, ofL_app, if_pos (by rw [ofL_size, ofL_size]; omega)]
    have eR : (⟨#[82]⟩ : ByteArray) = ofL [82] := rfl
    by_cases h0 : (n : Int) > 0
    · rw [if_pos h0, eR, ofL_app, if_pos (by rw [ofL_size, List.length_append]; omega), ih k _ (by omega) (by omega) (by omega) (by simp; omega)]
      simp only [dfA]
      rw [if_pos (by omega)]
      simp
    · rw [if_neg h0, ih k _ (by omega) (by omega) (by omega) (by simp; omega)]
      simp only [dfA]
      rw [if_neg (by omega)]
      simp
def dfL (u d : Int) : List UInt8 := if d = 0 then [82] else dfA (teL 60 u d).length (teL 60 u d)
theorem spec_l4Dance_ev (k : Nat) (hk : 3000 ≤ k) (u d : Int) (h0 : 0 ≤ d) (h2 : d ≤ 60) (h3 : -60 ≤ u ∧ u ≤ 60) : spec_l4Dance.f k u d = some (ofL (dfL u d)) := by
  unfold spec_l4Dance.f dfL
  by_cases hd : d = 0
  · rw [if_pos hd, if_pos hd]; rfl
  · rw [if_neg hd, if_neg hd]
    unfold spec_l4Terms.f
    rw [spec_l4Terms_l0 60 k [] u d (by omega) (by omega) (by omega) h2 h3.1 h3.2 (by simp), Option.bind_some]
    have hlen := (teL_len 60 u d (by omega) (by omega)).1
    have hbd := teL_bd 60 u d (by omega) (by omega) (by omega) h3.1 h3.2
    rw [List.nil_append, w64 (by omega)]
    exact spec_l4Dance_l0 (teL 60 u d) hbd (teL 60 u d).length k [] (by omega) (by omega) (by omega) (by simp; omega)
theorem spec_DanceFor_ev (k : Nat) (hk : 1000100 ≤ k) (u d : Int) : spec_DanceFor.f k u d = some (if Fr u d ∧ -12 ≤ u ∧ u ≤ 12 ∧ d ≤ 12 then (ofL (dfL u d), true) else (ofL [], false)) := by
  unfold spec_DanceFor.f
  rw [spec_FractionOk_ev k (by omega), spec_l1In_ev]
  have e0 : (⟨#[]⟩ : ByteArray) = ofL [] := rfl
  rw [e0]
  simp only [Option.bind_some, decide_eq_true_eq]
  by_cases h1 : Fr u d
  · rw [if_pos h1]
    have hd := h1.2.2.1
    by_cases h2 : -12 ≤ u ∧ u ≤ 12
    · rw [if_pos h2]
      by_cases h3 : d > 12
      · rw [if_pos h3, if_neg (by intro x; have := x.2.2.2; omega)]
      · have hy : Fr u d ∧ -12 ≤ u ∧ u ≤ 12 ∧ d ≤ 12 := ⟨h1, h2.1, h2.2, by omega⟩
        rw [if_neg h3, spec_l4Dance_ev k (by omega) u d hd (by omega) (by omega), Option.bind_some, if_pos hy]
    · rw [if_neg h2, if_neg (fun x => h2 ⟨x.2.1, x.2.2.1⟩)]
  · rw [if_neg h1, if_neg (fun x => h1 x.1)]
theorem rev_l0 (l : List ByteArray) (hn : l.length ≤ 1000000) (d : Nat) : ∀ (k i : Nat) (x : List ByteArray), l.length - 2 * i ≤ d → d < k → i ≤ l.length → x.length = l.length → (∀ m : Nat, m < l.length → x[m]? = if m < i ∨ l.length - i ≤ m then l[l.length - 1 - m]? else l[m]?) → slices_Reverse_string_string.l0 k x (i : Int) ((l.length : Int) - 1 - i) = some l.reverse := by
  have fin : ∀ (i : Nat) (x : List ByteArray), i ≤ l.length → l.length ≤ 2 * i + 1 → x.length = l.length → (∀ m : Nat, m < l.length → x[m]? = if m < i ∨ l.length - i ≤ m then l[l.length - 1 - m]? else l[m]?) → x = l.reverse := by
    intro i x hi h2 hx hm
    apply List.ext_getElem?
    intro m
    by_cases hml : m < l.length
    · rw [hm m hml, List.getElem?_reverse hml]
      split
      · rfl
      · have : l.length - 1 - m = m := by omega
        rw [this]
    · rw [List.getElem?_eq_none (by omega), List.getElem?_eq_none (by simp; omega)]
  induction d with
  | zero =>
    intro k i x hd hk hi hx hm
    obtain ⟨k, rfl⟩ : ∃ m, k = m + 1 := ⟨k - 1, by omega⟩
    simp only [slices_Reverse_string_string.l0]
    rw [if_neg (by omega), fin i x hi (by omega) hx hm]
  | succ d ih =>
    intro k i x hd hk hi hx hm
    obtain ⟨k, rfl⟩ : ∃ m, k = m + 1 := ⟨k - 1, by omega⟩
    simp only [slices_Reverse_string_string.l0]
    by_cases hlt : (i : Int) < (l.length : Int) - 1 - i
    · rw [if_pos hlt, if_pos (by omega), if_pos (by omega), if_pos (by omega), if_pos (by omega), w64 (by omega), w64 (by omega)]
      have e1 : (i : Int) + 1 = ((i + 1 : Nat) : Int) := by omega
      have e2 : (l.length : Int) - 1 - i - 1 = (l.length : Int) - 1 - ((i + 1 : Nat) : Int) := by omega
      have e3 : ((l.length : Int) - 1 - i).toNat = l.length - 1 - i := by omega
      rw [e1, e2, e3, Int.toNat_natCast]
      refine ih k (i + 1) _ (by omega) (by omega) (by omega) (by simp [hx]) ?_
      intro m hml
      have r1 : rdOf ByteArray.empty x ((l.length : Int) - 1 - i) = l[l.length - 1 - i]'(by omega) := by
        show x.getD (((l.length : Int) - 1 - i)).toNat _ = _
        rw [e3, List.getD_eq_getElem?_getD, hm _ (by omega), if_neg (by omega), List.getElem?_eq_getElem (by omega)]; rfl
      have r2 : rdOf ByteArray.empty x (i : Int) = l[i]'(by omega) := by
        show x.getD ((i : Int)).toNat _ = _
        rw [Int.toNat_natCast, List.getD_eq_getElem?_getD, hm _ (by omega), if_neg (by omega), List.getElem?_eq_getElem (by omega)]; rfl
      rw [r1, r2, List.getElem?_set, List.getElem?_set]
      by_cases c1 : l.length - 1 - i = m
      · rw [if_pos c1, if_pos (by simp; omega), if_pos (by omega)]
        have : l.length - 1 - m = i := by omega
        rw [this, List.getElem?_eq_getElem (by omega)]
      · rw [if_neg c1]
        by_cases c2 : i = m
        · rw [if_pos c2, if_pos (by omega), if_pos (by omega), ← c2, List.getElem?_eq_getElem (by omega)]
        · rw [if_neg c2, hm m hml]
          by_cases c3 : m < i ∨ l.length - i ≤ m
          · rw [if_pos c3, if_pos (by omega)]
          · rw [if_neg c3, if_neg (by omega)]
    · rw [if_neg hlt, fin i x hi (by omega) hx hm]
theorem rev_ev (k : Nat) (l : List ByteArray) (hn : l.length ≤ 1000000) (hk : l.length < k) : slices_Reverse_string_string.f k l = some l.reverse := by
  unfold slices_Reverse_string_string.f
  rw [w64 (by omega)]
  have := rev_l0 l hn l.length k 0 l (by omega) hk (by omega) rfl (fun m hm => by rw [if_neg (by omega)])
  have e : (l.length : Int) - 1 - ((0 : Nat) : Int) = (l.length : Int) - 1 := by omega
  rw [e] at this
  exact this
theorem twists_ev (a : Int) (h : -1000000 ≤ a ∧ a ≤ 1000000) : impl_twists.f a = some (ofL (twL a)) := by
  unfold impl_twists.f; rw [if_pos h]; rfl
theorem join_dfA (l : List Int) (n : Nat) : n ≤ l.length → Lib.join ((l.take n).map twL).reverse [82] = dfA n l := by
  induction n with
  | zero => intro _; rfl
  | succ n ih =>
    intro hn
    have hlt : n < l.length := by omega
    have hr : rd l (n : Int) = l[n] := by rw [rd_eq l (n : Int) (by omega) (by omega)]; rfl
    rw [List.take_succ_eq_append_getElem hlt, List.map_append, List.reverse_append]
    show Lib.join (twL l[n] :: ((l.take n).map twL).reverse) [82] = _
    rw [Lib.join_cons]
    simp only [dfA]
    rw [hr, ← ih (by omega)]
    congr 1
    by_cases h0 : 0 < n
    · rw [if_pos h0]
      cases hq : ((l.take n).map twL).reverse with
      | nil =>
        have hl : ((l.take n).map twL).reverse.length = n := by rw [List.length_reverse, List.length_map, List.length_take]; omega
        rw [hq] at hl
        simp only [List.length_nil] at hl
        omega
      | cons y r =>
        rw [Lib.join_cons]
        simp [Lib.joinTail]
    · have : n = 0 := by omega
      subst this
      rfl
theorem impl_danceFor_l0 (l : List Int) (hl : ∀ x ∈ l, -60 ≤ x ∧ x ≤ 60) (hlen : l.length ≤ 60) (d : Nat) : ∀ (k i : Nat), i + d = l.length → d + 200 ≤ k → impl_danceFor.l0 k ((l.take i).map fun a => ofL (twL a)) l (l.length : Int) (i : Int) = some (ofL (dfA l.length l)) := by
  induction d with
  | zero =>
    intro k i hi hk
    obtain ⟨k, rfl⟩ : ∃ m, k = m + 1 := ⟨k - 1, by omega⟩
    simp only [impl_danceFor.l0]
    rw [if_neg (by omega), rev_ev _ _ (by simp; omega) (by simp; omega), Option.bind_some]
    have e0 : (⟨#[82]⟩ : ByteArray) = ofL [82] := rfl
    have e : (((l.take i).map fun a => ofL (twL a)).reverse.map fun s : ByteArray => s.data.toList) = ((l.take l.length).map twL).reverse := by
      have : i = l.length := by omega
      rw [this, List.map_reverse, List.map_map]
      congr 1
    have hj := join_dfA l l.length (Nat.le_refl _)
    have hd := dfA_len l.length l hl (Nat.le_refl _)
    unfold strings_Join.f
    rw [e0, ofL_data, e, hj, if_pos (by constructor <;> first | (simp; omega) | omega)]
    rfl
  | succ d ih =>
    intro k i hi hk
    obtain ⟨k, rfl⟩ : ∃ m, k = m + 1 := ⟨k - 1, by omega⟩
    simp only [impl_danceFor.l0]
    have hlt : i < l.length := by omega
    have hb := rd_bd l 60 hl i hlt
    have hr : rd l (i : Int) = l[i] := by rw [rd_eq l (i : Int) (by omega) (by omega)]; rfl
    have e1 : (i : Int) + 1 = ((i + 1 : Nat) : Int) := by omega
    rw [if_pos (by omega), if_pos (by omega), if_pos (by omega), twists_ev _ (by omega), Option.bind_some, if_pos (by simp; omega), w64 (by omega), e1, hr]
    have e2 : ((l.take i).map fun a => ofL (twL a)) ++ [ofL (twL l[i])] = (l.take (i + 1)).map fun a => ofL (twL a) := by
      rw [List.take_succ_eq_append_getElem hlt, List.map_append]; rfl
    rw [e2]
    exact ih k (i + 1) (by omega) (by omega)
theorem impl_danceFor_ev (k : Nat) (hk : 1000 ≤ k) (u d : Int) (h0 : 0 ≤ d) (h2 : d ≤ 60) (h3 : -60 ≤ u ∧ u ≤ 60) : impl_danceFor.f k u d = some (ofL (dfL u d)) := by
  unfold impl_danceFor.f dfL
  by_cases hd : d = 0
  · rw [if_pos hd, if_pos hd]; rfl
  · rw [if_neg hd, if_neg hd, impl_termsOf_ev k (by omega) u d (by omega) h2 h3, Option.bind_some]
    have hlen := (teL_len 60 u d (by omega) (by omega)).1
    have hbd := teL_bd 60 u d (by omega) (by omega) (by omega) h3.1 h3.2
    exact impl_danceFor_l0 (teL 60 u d) hbd (by omega) (teL 60 u d).length k 0 (by omega) (by omega)
theorem impl_DanceFor_ev (k : Nat) (hk : 1000100 ≤ k) (u d : Int) : impl_DanceFor.f k u d = some (if Fr u d ∧ -12 ≤ u ∧ u ≤ 12 ∧ d ≤ 12 then (ofL (dfL u d), true) else (ofL [], false)) := by
  unfold impl_DanceFor.f
  rw [impl_isSmall_ev k (by omega) u d 12 (by omega)]
  have e0 : (⟨#[]⟩ : ByteArray) = ofL [] := rfl
  rw [e0, Option.bind_some]
  simp only [decide_eq_true_eq]
  by_cases h : Fr u d ∧ -12 ≤ u ∧ u ≤ 12 ∧ d ≤ 12
  · rw [if_pos h, if_pos h, impl_danceFor_ev k (by omega) u d h.1.2.2.1 (by omega) (by omega), Option.bind_some]
  · rw [if_neg h, if_neg h]
theorem FnExactDanceFor (u d : Int) (wu : (Lit.int .i64 u).wf = true) (wd : (Lit.int .i64 d).wf = true) : ∃ k, laws_FnExactDanceFor.f k u d = some true := by
  refine ⟨3000000, ?_⟩
  unfold laws_FnExactDanceFor.f
  simp only [laws_toFraction_ev, Option.bind_some]
  rw [spec_DanceFor_ev _ (by omega), impl_DanceFor_ev _ (by omega)]
  simp
end Go.Proofs.Ytpjiimlcdifneaa.Pure
