/- What the walked law FnExactNormalOf computes, answers true. -/
import Derived.Test.YtpjiimlcdifneaaPFnExactNormalOfx6
import Derived.OpenShut
namespace Go.Proofs.Ytpjiimlcdifneaa.Pure
open Go.RowKit Go.Proofs.Ytpjiimlcdifneaa.PFnExactNormalOf Go.Proofs.YtpjiimlcdifneaaW.PrintWords Go.Proofs.YtpjiimlcdifneaaW.PrintLast Go.Proofs.YtpjiimlcdifneaaW.PrintMore
set_option linter.unusedVariables false
set_option linter.unusedSimpArgs false
theorem st {P : Prop} [Decidable P] (h : P) : some true = some (decide P) := by simp [h]
theorem sf {P : Prop} [Decidable P] (h : ¬P) : some false = some (decide P) := by simp [h]
theorem sd {P Q : Prop} [Decidable P] [Decidable Q] (h : P ↔ Q) : some (decide P) = some (decide Q) := by simp [h]
theorem w64 {n : Int} (h : -9223372036854775808 ≤ n ∧ n ≤ 9223372036854775807) : wrap64 n = n := by unfold wrap64; omega
def Pt (n : Int) : Prop := -1000000 ≤ n ∧ n ≤ 1000000
instance (n : Int) : Decidable (Pt n) := by unfold Pt; exact inferInstance
theorem tdiv_le (a b : Int) : (Int.tdiv a b).natAbs ≤ a.natAbs := by
  rw [Int.natAbs_tdiv]
  exact Nat.div_le_self _ _
theorem mulb {a b : Int} (ha : Pt a) (hb : Pt b) : -1000000000000 ≤ a * b ∧ a * b ≤ 1000000000000 := by
  unfold Pt at ha hb
  have h1 : a.natAbs ≤ 1000000 := by omega
  have h2 : b.natAbs ≤ 1000000 := by omega
  have := Nat.mul_le_mul h1 h2
  rw [← Int.natAbs_mul] at this
  omega
theorem wmul {a b : Int} (ha : Pt a) (hb : Pt b) : wrap64 (a * b) = a * b := by
  have := mulb ha hb
  exact w64 (by omega)
theorem ltge (a b : Int) : a < b ∨ b ≤ a := by omega
theorem gcd_dvd (u d : Int) : (Int.gcd u d : Int) ∣ u ∧ (Int.gcd u d : Int) ∣ d := ⟨Int.gcd_dvd_left u d, Int.gcd_dvd_right u d⟩
theorem wtwo {x y z w : Int} (hx : Pt x) (hy : Pt y) (hz : Pt z) (hw : Pt w) : wrap64 (wrap64 (x * y) + wrap64 (z * w)) = x * y + z * w := by
  have h1 := mulb hx hy
  have h2 := mulb hz hw
  rw [wmul hx hy, wmul hz hw]
  exact w64 (by omega)
def Bg (n : Int) : Prop := -2000000000000 ≤ n ∧ n ≤ 2000000000000
theorem two_bg {x y z w : Int} (hx : Pt x) (hy : Pt y) (hz : Pt z) (hw : Pt w) : Bg (x * y + z * w) := by
  have h1 := mulb hx hy
  have h2 := mulb hz hw
  unfold Bg; omega
theorem bg_neg {n : Int} (h : Bg n) : wrap64 (-n) = -n := by unfold Bg at h; exact w64 (by omega)
def t2 (n : Int) : Bool := decide (2 ≤ n ∧ n ≤ 60)
def ofL (l : List UInt8) : ByteArray := ⟨l.toArray⟩
theorem ofL_size (l : List UInt8) : (ofL l).size = l.length := by simp [ofL, ByteArray.size]
theorem ofL_app (l m : List UInt8) : ofL l ++ ofL m = ofL (l ++ m) := by
  apply ByteArray.ext; simp [ofL]
theorem ofL_data (l : List UInt8) : (ofL l).data.toList = l := by simp [ofL]
theorem bt_get (s : ByteArray) (i : Int) (h0 : 0 ≤ i) (h : i.toNat < s.size) : bt s i = (s.data.toList[i.toNat]'(by simpa using h)).toNat := by
  unfold bt
  rw [dif_pos h]
  rfl
theorem rd_eq (xs : List Int) (i : Int) (h0 : 0 ≤ i) (h : i.toNat < xs.length) : rd xs i = xs[i.toNat] := by unfold rd; simp [h]
def mv (c : UInt8) : Bool := c == 84 || c == 116 || c == 82
def dok (l : List UInt8) : Bool := l.all mv
theorem u8_eq (c : UInt8) (n : Nat) (hn : n < 256) : ((c.toNat : Int) = (n : Int)) ↔ c = UInt8.ofNat n := by
  constructor
  · intro h
    have : c.toNat = n := by omega
    rw [← UInt8.toNat_inj, this]
    simp
    omega
  · intro h
    rw [h]
    simp
    omega
theorem impl_isPart_ev (n : Int) : impl_isPart.f n = some (decide (Pt n)) := by
  unfold impl_isPart.f Pt
  split
  · exact sd (by omega)
  · exact sf (by omega)
theorem spec_l1In_ev (n a b : Int) : spec_l1In.f n a b = some (decide (a ≤ n ∧ n ≤ b)) := by
  unfold spec_l1In.f
  split
  · exact sd (by omega)
  · exact sf (by omega)
theorem laws_toMap_ev (a b c d : Int) : laws_toMap.f a b c d = some (a, b, c, d) := rfl
def Mp (a b c d : Int) : Prop := Pt a ∧ Pt b ∧ Pt c ∧ Pt d ∧ a * d - b * c = 1 ∧ (0 < c ∨ c = 0 ∧ 0 < d)
instance (a b c d : Int) : Decidable (Mp a b c d) := by unfold Mp; exact inferInstance
theorem wdet {a b c d : Int} (ha : Pt a) (hb : Pt b) (hc : Pt c) (hd : Pt d) : wrap64 (wrap64 (a * d) - wrap64 (b * c)) = a * d - b * c := by
  have h1 := mulb ha hd
  have h2 := mulb hb hc
  rw [wmul ha hd, wmul hb hc]
  exact w64 (by omega)
theorem spec_MapOk_ev (a b c d : Int) : spec_MapOk.f a b c d = some (decide (Mp a b c d)) := by
  have pt : ∀ n : Int, (-1000000 ≤ n ∧ n ≤ 1000000) ↔ Pt n := fun n => Iff.rfl
  unfold spec_MapOk.f
  simp only [spec_l1In_ev, Option.bind_some, decide_eq_true_eq, pt]
  by_cases ha : Pt a
  · rw [if_pos ha]
    by_cases hb : Pt b
    · rw [if_pos hb]
      by_cases hc : 0 ≤ c ∧ c ≤ 1000000
      · rw [if_pos hc]
        have hc' : Pt c := by unfold Pt; omega
        by_cases hd : Pt d
        · rw [if_pos hd, wdet ha hb hc' hd]
          by_cases h : a * d - b * c = 1
          · rw [if_pos h]
            by_cases h3 : c > 0
            · rw [if_pos h3]; exact st ⟨ha, hb, hc', hd, h, Or.inl h3⟩
            · rw [if_neg h3]; exact sd ⟨fun x => ⟨ha, hb, hc', hd, h, Or.inr ⟨by omega, x⟩⟩, fun x => by have := x.2.2.2.2.2; omega⟩
          · rw [if_neg h]; exact sf (fun x => h x.2.2.2.2.1)
        · rw [if_neg hd]; exact sf (fun x => hd x.2.2.2.1)
      · rw [if_neg hc]; exact sf (fun x => hc (by have h1 := x.2.2.1; have h2 := x.2.2.2.2.2; unfold Pt at h1; omega))
    · rw [if_neg hb]; exact sf (fun x => hb x.2.1)
  · rw [if_neg ha]; exact sf (fun x => ha x.1)
theorem impl_isMap_ev (a b c d : Int) : impl_isMap.f a b c d = some (decide (Mp a b c d)) := by
  unfold impl_isMap.f
  simp only [impl_isPart_ev, Option.bind_some, decide_eq_true_eq]
  by_cases ha : Pt a
  · rw [if_pos ha]
    by_cases hb : Pt b
    · rw [if_pos hb]
      by_cases hc : Pt c
      · rw [if_pos hc]
        by_cases hd : Pt d
        · rw [if_pos hd, wdet ha hb hc hd]
          by_cases h : a * d - b * c = 1
          · rw [if_pos h]
            by_cases h3 : c > 0
            · rw [if_pos h3]; exact st ⟨ha, hb, hc, hd, h, Or.inl h3⟩
            · rw [if_neg h3]
              by_cases h4 : c = 0
              · rw [if_pos h4]; exact sd ⟨fun x => ⟨ha, hb, hc, hd, h, Or.inr ⟨h4, x⟩⟩, fun x => by have := x.2.2.2.2.2; omega⟩
              · rw [if_neg h4]; exact sf (fun x => by have := x.2.2.2.2.2; omega)
          · rw [if_neg h]; exact sf (fun x => h x.2.2.2.2.1)
        · rw [if_neg hd]; exact sf (fun x => hd x.2.2.2.1)
      · rw [if_neg hc]; exact sf (fun x => hc x.2.2.1)
    · rw [if_neg hb]; exact sf (fun x => hb x.2.1)
  · rw [if_neg ha]; exact sf (fun x => ha x.1)
def sgn5 (a b c d : Int) : Int × Int × Int × Int := if c < 0 ∨ (c = 0 ∧ d < 0) then (-a, -b, -c, -d) else (a, b, c, d)
def m5 (m : Int × Int × Int × Int) : Int × Int × Int × Int × Bool := if Mp m.1 m.2.1 m.2.2.1 m.2.2.2 then (m.1, m.2.1, m.2.2.1, m.2.2.2, true) else (0, 0, 0, 0, false)
def bh (a b c d a' b' c' d' : Int) : Int × Int × Int × Int × Bool := m5 (sgn5 (a' * a + b' * c) (a' * b + b' * d) (c' * a + d' * c) (c' * b + d' * d))
theorem spec_l5Signed_ev (a b c d : Int) (ha : Bg a) (hb : Bg b) (hc : Bg c) (hd : Bg d) : spec_l5Signed.f a b c d = some (sgn5 a b c d) := by
  unfold spec_l5Signed.f sgn5
  rw [bg_neg ha, bg_neg hb, bg_neg hc, bg_neg hd]
  by_cases h1 : c < 0
  · rw [if_pos h1, if_pos (Or.inl h1)]
  · rw [if_neg h1]
    by_cases h2 : c = 0
    · rw [if_pos h2]
      by_cases h3 : d < 0
      · rw [if_pos h3, if_pos (Or.inr ⟨h2, h3⟩)]
      · rw [if_neg h3, if_neg (by omega)]
    · rw [if_neg h2, if_neg (by omega)]
theorem spec_BehindOf_ev (k : Nat) (hk : 1 ≤ k) (a b c d a' b' c' d' : Int) : spec_BehindOf.f k a b c d a' b' c' d' = some (if Mp a b c d ∧ Mp a' b' c' d' then bh a b c d a' b' c' d' else (0, 0, 0, 0, false)) := by
  obtain ⟨k, rfl⟩ : ∃ m, k = m + 1 := ⟨k - 1, by omega⟩
  unfold spec_BehindOf.f
  simp only [spec_MapOk_ev, Option.bind_some, decide_eq_true_eq]
  by_cases h1 : Mp a b c d
  · rw [if_pos h1]
    by_cases h2 : Mp a' b' c' d'
    · have hp : Mp a b c d ∧ Mp a' b' c' d' := ⟨h1, h2⟩
      rw [if_pos hp]
      obtain ⟨pa, pb, pc, pd, _⟩ := h1
      obtain ⟨pa', pb', pc', pd', _⟩ := id h2
      have : (!decide (Mp a' b' c' d')) = false := by simpa using h2
      rw [this]
      simp only [spec_BehindOf.j0]
      rw [if_neg (by simp), wtwo pa' pa pb' pc, wtwo pa' pb pb' pd, wtwo pc' pa pd' pc, wtwo pc' pb pd' pd]
      rw [spec_l5Signed_ev _ _ _ _ (two_bg pa' pa pb' pc) (two_bg pa' pb pb' pd) (two_bg pc' pa pd' pc) (two_bg pc' pb pd' pd)]
      simp only [spec_MapOk_ev, Option.bind_some, decide_eq_true_eq]
      unfold bh m5
      split <;> rfl
    · have : (!decide (Mp a' b' c' d')) = true := by simpa using h2
      rw [this, if_neg (fun x => h2 x.2)]
      simp only [spec_BehindOf.j0]
      rw [if_pos trivial]
  · rw [if_neg h1, if_neg (fun x => h1 x.1)]
    simp only [spec_BehindOf.j0]
    rw [if_pos trivial]
theorem bh_or (a b c d a' b' c' d' : Int) : (∃ A B C D, bh a b c d a' b' c' d' = (A, B, C, D, true) ∧ Mp A B C D) ∨ bh a b c d a' b' c' d' = (0, 0, 0, 0, false) := by
  unfold bh m5
  split
  · exact Or.inl ⟨_, _, _, _, rfl, by assumption⟩
  · exact Or.inr rfl
theorem impl_behind_j0 (k : Nat) (x : Bool) (a b c d : Int) (ha : Bg a) (hb : Bg b) (hc : Bg c) (hd : Bg d) (hx : x = decide (c < 0 ∨ (c = 0 ∧ d < 0))) : impl_behind.j0 (k + 1) x a b c d = some (m5 (sgn5 a b c d)) := by
  simp only [impl_behind.j0]
  rw [bg_neg ha, bg_neg hb, bg_neg hc, bg_neg hd]
  simp only [impl_isMap_ev, Option.bind_some, decide_eq_true_eq]
  subst hx
  simp only [decide_eq_true_eq]
  unfold m5 sgn5
  by_cases h : c < 0 ∨ (c = 0 ∧ d < 0)
  · rw [if_pos h, if_pos h]
    split <;> rfl
  · rw [if_neg h, if_neg h]
    split <;> rfl
theorem impl_behind_ev (k : Nat) (hk : 1 ≤ k) (a b c d a' b' c' d' : Int) (h1 : Mp a b c d) (h2 : Mp a' b' c' d') : impl_behind.f k a b c d a' b' c' d' = some (bh a b c d a' b' c' d') := by
  obtain ⟨k, rfl⟩ : ∃ m, k = m + 1 := ⟨k - 1, by omega⟩
  obtain ⟨pa, pb, pc, pd, _⟩ := h1
  obtain ⟨pa', pb', pc', pd', _⟩ := h2
  unfold impl_behind.f bh
  rw [wtwo pa' pa pb' pc, wtwo pa' pb pb' pd, wtwo pc' pa pd' pc, wtwo pc' pb pd' pd]
  have j := fun x hx => impl_behind_j0 k x _ _ _ _ (two_bg pa' pa pb' pc) (two_bg pa' pb pb' pd) (two_bg pc' pa pd' pc) (two_bg pc' pb pd' pd) hx
  generalize c' * a + d' * c = m at *
  generalize c' * b + d' * d = n at *
  by_cases h3 : m < 0
  · rw [if_pos h3]; exact j true (by simp [h3])
  · rw [if_neg h3]
    by_cases h4 : m = 0
    · rw [if_pos h4]; exact j _ (by rw [decide_eq_decide]; omega)
    · rw [if_neg h4]; exact j false (by symm; rw [decide_eq_false_iff_not]; omega)
def ce (u d : Int) : Int := -((-u) / d)
theorem ce_spec {u d : Int} (hd : 0 < d) : 0 ≤ ce u d * d - u ∧ ce u d * d - u < d := by
  have h1 := Int.emod_nonneg (-u) (show d ≠ 0 by omega)
  have h2 := Int.emod_lt_of_pos (-u) hd
  have h3 := Int.mul_ediv_add_emod (-u) d
  unfold ce
  rw [Int.neg_mul, Int.mul_comm]
  omega
theorem ce_unique {u d c : Int} (hd : 0 < d) (h0 : 0 ≤ c * d - u) (h1 : c * d - u < d) : c = ce u d := by
  have h2 := ce_spec (u := u) hd
  rcases ltge c (ce u d) with h | h
  · have : (c + 1) * d ≤ ce u d * d := Int.mul_le_mul_of_nonneg_right (by omega) (by omega)
    rw [Int.add_mul, Int.one_mul] at this
    omega
  · by_cases e : c = ce u d
    · exact e
    · have : (ce u d + 1) * d ≤ c * d := Int.mul_le_mul_of_nonneg_right (by omega) (by omega)
      rw [Int.add_mul, Int.one_mul] at this
      omega
theorem tdiv_facts (u d : Int) (hd : 0 < d) : (0 ≤ u → 0 ≤ u - Int.tdiv u d * d ∧ u - Int.tdiv u d * d < d) ∧ (u < 0 → 0 ≤ Int.tdiv u d * d - u ∧ Int.tdiv u d * d - u < d) := by
  have h := Int.mul_tdiv_add_tmod u d
  rw [Int.mul_comm] at h
  constructor
  · intro hu
    have h1 := Int.tmod_nonneg d hu
    have h2 := Int.tmod_lt_of_pos u hd
    omega
  · intro hu
    have h1 := Int.tmod_nonneg d (show 0 ≤ -u by omega)
    have h2 := Int.tmod_lt_of_pos (-u) hd
    rw [Int.neg_tmod] at h1 h2
    omega
theorem ce_bd {u d n : Int} (hd : 0 < d) (h : -n ≤ u ∧ u ≤ n) (hn : 0 ≤ n) : -n ≤ ce u d ∧ ce u d ≤ n := by
  have h2 := ce_spec (u := u) hd
  constructor
  · rcases ltge (ce u d) (-n) with h' | h'
    · exfalso
      have t1 : ce u d * d ≤ (-n - 1) * d := Int.mul_le_mul_of_nonneg_right (by omega) (by omega)
      have t2 : (-n - 1) * d ≤ (-n - 1) * 1 := Int.mul_le_mul_of_nonpos_left (by omega) (by omega)
      omega
    · exact h'
  · rcases ltge n (ce u d) with h' | h'
    · exfalso
      have t1 : (n + 1) * d ≤ ce u d * d := Int.mul_le_mul_of_nonneg_right (by omega) (by omega)
      rw [Int.add_mul, Int.one_mul] at t1
      have t2 : n * 1 ≤ n * d := Int.mul_le_mul_of_nonneg_left (by omega) hn
      omega
    · exact h'
theorem impl_ceiling_ev (u d : Int) (hd : 0 < d) (hb : d ≤ 1000) (hu : -1000 ≤ u ∧ u ≤ 1000) : impl_ceiling.f u d = some (ce u d) := by
  unfold impl_ceiling.f
  have b := tdiv_le u d
  have f := tdiv_facts u d hd
  have w1 : wrap64 (Int.tdiv u d) = Int.tdiv u d := w64 (by omega)
  have pm := mulb (a := Int.tdiv u d) (b := d) (by unfold Pt; omega) (by unfold Pt; omega)
  have w2 : wrap64 (Int.tdiv u d * d) = Int.tdiv u d * d := w64 (by omega)
  rw [if_neg (by omega), w1, w2]
  by_cases h : Int.tdiv u d * d < u
  · rw [if_pos h, w64 (by omega)]
    congr 1
    refine ce_unique hd ?_ ?_ <;> rw [Int.add_mul, Int.one_mul]
    · have h' : 0 ≤ u := by
        rcases ltge u 0 with x | x
        · have := f.2 x; omega
        · exact x
      have := f.1 h'
      omega
    · omega
  · rw [if_neg h]
    congr 1
    refine ce_unique hd (by omega) ?_
    rcases ltge u 0 with x | x
    · have := f.2 x; omega
    · have := f.1 x; omega
theorem spec_l4Over_ev (u d : Int) (hd : 0 < d) (hb : d ≤ 1000) (hu : -1000 ≤ u ∧ u ≤ 1000) : spec_l4Over.f u d = some (ce u d) := by
  unfold spec_l4Over.f spec_l3Under.f
  have b := tdiv_le (-u) d
  have f := tdiv_facts (-u) d hd
  have w0 : wrap64 (-u) = -u := w64 (by omega)
  rw [w0]
  have w1 : wrap64 (Int.tdiv (-u) d) = Int.tdiv (-u) d := w64 (by omega)
  have pm := mulb (a := Int.tdiv (-u) d) (b := d) (by unfold Pt; omega) (by unfold Pt; omega)
  have w2 : wrap64 (Int.tdiv (-u) d * d) = Int.tdiv (-u) d * d := w64 (by omega)
  rw [if_neg (by omega), w1, w2]
  by_cases h : Int.tdiv (-u) d * d > -u
  · rw [if_pos h, w64 (by omega)]
    simp only [Option.bind_some]
    rw [w64 (by omega)]
    congr 1
    refine ce_unique hd ?_ ?_ <;> rw [Int.neg_mul, Int.sub_mul, Int.one_mul]
    · have h' : -u < 0 := by
        rcases ltge (-u) 0 with x | x
        · exact x
        · have := f.1 x; omega
      have := f.2 h'
      omega
    · omega
  · rw [if_neg h]
    simp only [Option.bind_some]
    rw [w64 (by omega)]
    congr 1
    refine ce_unique hd ?_ ?_ <;> rw [Int.neg_mul]
    · omega
    · rcases ltge (-u) 0 with x | x
      · have := f.2 x; omega
      · have := f.1 x; omega
def teL : Nat → Int → Int → List Int
  | 0, _, _ => []
  | n + 1, u, d => if ce u d * d - u = 0 then [ce u d] else ce u d :: teL n d (ce u d * d - u)
theorem impl_termsOf_l0 (n : Nat) : ∀ (k : Nat) (l : List Int) (u d : Int), n < k → 0 < d → d ≤ n → d ≤ 60 → -60 ≤ u → u ≤ 60 → l.length + n ≤ 1000 → impl_termsOf.l0 k l u d = some (l ++ teL n u d) := by
  induction n with
  | zero => intro k l u d hk h0 h1; omega
  | succ n ih =>
    intro k l u d hk h0 h1 h2 h3 h4 h5
    obtain ⟨k, rfl⟩ : ∃ m, k = m + 1 := ⟨k - 1, by omega⟩
    simp only [impl_termsOf.l0, teL]
    have hc := ce_spec (u := u) h0
    have hb := ce_bd (n := 60) h0 ⟨h3, h4⟩ (by omega)
    have pm := mulb (a := ce u d) (b := d) (by unfold Pt; omega) (by unfold Pt; omega)
    rw [impl_ceiling_ev u d h0 (by omega) (by omega)]
    simp only [Option.bind_some]
    rw [if_pos (by omega), w64 (by omega : -9223372036854775808 ≤ ce u d * d ∧ _), w64 (by omega)]
    by_cases hz : ce u d * d - u = 0
    · rw [if_pos hz, if_pos hz]
    · rw [if_neg hz, if_neg hz, ih k _ _ _ (by omega) (by omega) (by omega) (by omega) (by omega) (by omega) (by simp; omega)]
      simp
theorem impl_termsOf_ev (k : Nat) (hk : 70 ≤ k) (u d : Int) (h0 : 0 < d) (h2 : d ≤ 60) (h3 : -60 ≤ u ∧ u ≤ 60) : impl_termsOf.f k u d = some (teL 60 u d) := by
  unfold impl_termsOf.f
  have := impl_termsOf_l0 60 k [] u d (by omega) h0 (by omega) h2 h3.1 h3.2 (by simp)
  simpa using this
theorem spec_l4Terms_l0 (n : Nat) : ∀ (k : Nat) (l : List Int) (u d : Int), n + 1 < k → 0 < d → d ≤ n → d ≤ 60 → -60 ≤ u → u ≤ 60 → l.length + n ≤ 1000 → spec_l4Terms.l0 k l u d = some (l ++ teL n u d) := by
  induction n with
  | zero => intro k l u d hk h0 h1; omega
  | succ n ih =>
    intro k l u d hk h0 h1 h2 h3 h4 h5
    obtain ⟨k, rfl⟩ : ∃ m, k = m + 1 := ⟨k - 1, by omega⟩
    simp only [spec_l4Terms.l0, teL]
    have hc := ce_spec (u := u) h0
    have hb := ce_bd (n := 60) h0 ⟨h3, h4⟩ (by omega)
    have pm := mulb (a := ce u d) (b := d) (by unfold Pt; omega) (by unfold Pt; omega)
    rw [if_pos h0, spec_l4Over_ev u d h0 (by omega) (by omega)]
    simp only [Option.bind_some]
    rw [if_pos (by omega), w64 (by omega : -9223372036854775808 ≤ ce u d * d ∧ _), w64 (by omega)]
    by_cases hz : ce u d * d - u = 0
    · rw [if_pos hz, hz]
      obtain ⟨k, rfl⟩ : ∃ m, k = m + 1 := ⟨k - 1, by omega⟩
      simp only [spec_l4Terms.l0]
      rw [if_neg (by omega)]
    · rw [if_neg hz, ih k _ _ _ (by omega) (by omega) (by omega) (by omega) (by omega) (by omega) (by simp; omega)]
      simp
theorem teL_len (n : Nat) : ∀ (u d : Int), 0 < d → d ≤ n → ((teL n u d).length : Int) ≤ d ∧ 1 ≤ (teL n u d).length := by
  induction n with
  | zero => intro u d h0 h1; omega
  | succ n ih =>
    intro u d h0 h1
    have hc := ce_spec (u := u) h0
    simp only [teL]
    by_cases hz : ce u d * d - u = 0
    · rw [if_pos hz]; simp; omega
    · rw [if_neg hz]
      have := ih d (ce u d * d - u) (by omega) (by omega)
      simp
      omega
def mvM (c : UInt8) : Int × Int × Int × Int := if c = 84 then (1, 1, 0, 1) else if c = 116 then (1, -1, 0, 1) else (0, -1, 1, 0)
theorem mvM_mp (c : UInt8) : Mp (mvM c).1 (mvM c).2.1 (mvM c).2.2.1 (mvM c).2.2.2 := by
  unfold mvM
  split
  · show Mp 1 1 0 1; decide
  · split
    · show Mp 1 (-1) 0 1; decide
    · show Mp 0 (-1) 1 0; decide
def mapL : (Int × Int × Int × Int) → List UInt8 → Int × Int × Int × Int × Bool
  | m, [] => (m.1, m.2.1, m.2.2.1, m.2.2.2, true)
  | m, c :: l => if (bh m.1 m.2.1 m.2.2.1 m.2.2.2 (mvM c).1 (mvM c).2.1 (mvM c).2.2.1 (mvM c).2.2.2).2.2.2.2 = true then mapL ((bh m.1 m.2.1 m.2.2.1 m.2.2.2 (mvM c).1 (mvM c).2.1 (mvM c).2.2.1 (mvM c).2.2.2).1, (bh m.1 m.2.1 m.2.2.1 m.2.2.2 (mvM c).1 (mvM c).2.1 (mvM c).2.2.1 (mvM c).2.2.2).2.1, (bh m.1 m.2.1 m.2.2.1 m.2.2.2 (mvM c).1 (mvM c).2.1 (mvM c).2.2.1 (mvM c).2.2.2).2.2.1, (bh m.1 m.2.1 m.2.2.1 m.2.2.2 (mvM c).1 (mvM c).2.1 (mvM c).2.2.1 (mvM c).2.2.2).2.2.2.1) l else (0, 0, 0, 0, false)
theorem bh_mp {a b c d a' b' c' d' : Int} (h : (bh a b c d a' b' c' d').2.2.2.2 = true) : Mp (bh a b c d a' b' c' d').1 (bh a b c d a' b' c' d').2.1 (bh a b c d a' b' c' d').2.2.1 (bh a b c d a' b' c' d').2.2.2.1 := by
  rcases bh_or a b c d a' b' c' d' with ⟨A, B, C, D, e, hm⟩ | e
  · rw [e]; exact hm
  · rw [e] at h; cases h
theorem spec_l5Move_ev (c : UInt8) : spec_l5Move.f (c.toNat : Int) = some (mvM c) := by
  unfold spec_l5Move.f mvM
  have q1' : ((c.toNat : Int) = 84) ↔ c = 84 := u8_eq c 84 (by omega)
  have q2' : ((c.toNat : Int) = 116) ↔ c = 116 := u8_eq c 116 (by omega)
  by_cases c1 : c = 84
  · rw [if_pos (q1'.2 c1), if_pos c1]
  · rw [if_neg (fun x => c1 (q1'.1 x)), if_neg c1]
    by_cases c2 : c = 116
    · rw [if_pos (q2'.2 c2), if_pos c2]
    · rw [if_neg (fun x => c2 (q2'.1 x)), if_neg c2]
theorem impl_mapOf_l0 (s : ByteArray) (h40 : s.size ≤ 2000) (d : Nat) : ∀ (k : Nat) (i : Nat) (m : Int × Int × Int × Int), d + 2 ≤ k → i + d = s.size → Mp m.1 m.2.1 m.2.2.1 m.2.2.2 → impl_mapOf.l0 k s (s.size : Int) (i : Int) m.1 m.2.1 m.2.2.1 m.2.2.2 = some (mapL m (s.data.toList.drop i)) := by
  have hsz : s.data.toList.length = s.size := by simp
  induction d with
  | zero =>
    intro k i m hk hd hm
    obtain ⟨k, rfl⟩ : ∃ m, k = m + 1 := ⟨k - 1, by omega⟩
    simp only [impl_mapOf.l0]
    rw [if_neg (by omega), List.drop_eq_nil_of_le (by omega)]; rfl
  | succ d ih =>
    intro k i m hk hd hm
    obtain ⟨k, rfl⟩ : ∃ m, k = m + 1 := ⟨k - 1, by omega⟩
    have hi : i < s.data.toList.length := by omega
    have hb' : bt s (i : Int) = (s.data.toList[i].toNat : Int) := bt_get s (i : Int) (by omega) (by omega)
    have e1 : ((i : Int) + 1) = ((i + 1 : Nat) : Int) := by omega
    simp only [impl_mapOf.l0]
    rw [if_pos (by omega), if_pos (by omega), if_pos (by omega), w64 (by omega), hb', e1, List.drop_eq_getElem_cons hi]
    generalize s.data.toList[i] = c
    have hp := mvM_mp c
    have st : ∀ A B C D : Int, mvM c = (A, B, C, D) → ((impl_behind.f k m.1 m.2.1 m.2.2.1 m.2.2.2 A B C D).bind fun x => (if x.2.2.2.2 = true then (impl_mapOf.l0 k s (s.size : Int) ((i + 1 : Nat) : Int) x.1 x.2.1 x.2.2.1 x.2.2.2.1) else (some (0, 0, 0, 0, false)))) = some (mapL m (c :: List.drop (i + 1) s.data.toList)) := by
      intro A B C D e
      simp only [mapL]
      rw [e] at hp ⊢
      rw [impl_behind_ev k (by omega) _ _ _ _ _ _ _ _ hm hp]
      simp only [Option.bind_some]
      split
      · rename_i h
        exact ih k (i + 1) (_, _, _, _) (by omega) (by omega) (bh_mp h)
      · rfl
    have q1' : ((c.toNat : Int) = 84) ↔ c = 84 := u8_eq c 84 (by omega)
    have q2' : ((c.toNat : Int) = 116) ↔ c = 116 := u8_eq c 116 (by omega)
    by_cases c1 : c = 84
    · rw [if_pos (q1'.2 c1)]; exact st _ _ _ _ (by unfold mvM; rw [if_pos c1])
    · rw [if_neg (fun x => c1 (q1'.1 x))]
      by_cases c2 : c = 116
      · rw [if_pos (q2'.2 c2)]; exact st _ _ _ _ (by unfold mvM; rw [if_neg c1, if_pos c2])
      · rw [if_neg (fun x => c2 (q2'.1 x))]; exact st _ _ _ _ (by unfold mvM; rw [if_neg c1, if_neg c2])
theorem impl_mapOf_ev (k : Nat) (s : ByteArray) (h40 : s.size ≤ 2000) (hk : 2100 ≤ k) : impl_mapOf.f k s = some (mapL (1, 0, 0, 1) s.data.toList) :=
  impl_mapOf_l0 s h40 s.size k 0 (1, 0, 0, 1) (by omega) (by omega) (by decide)
def mm (x y : Int × Int × Int × Int) : Int × Int × Int × Int := (x.1 * y.1 + x.2.1 * y.2.2.1, x.1 * y.2.1 + x.2.1 * y.2.2.2, x.2.2.1 * y.1 + x.2.2.2 * y.2.2.1, x.2.2.1 * y.2.1 + x.2.2.2 * y.2.2.2)
def pm : (Int × Int × Int × Int) → List UInt8 → Int × Int × Int × Int
  | m, [] => m
  | m, c :: l => pm (mm (mvM c) m) l
theorem mapL_mp (l : List UInt8) : ∀ {m r : Int × Int × Int × Int}, Mp m.1 m.2.1 m.2.2.1 m.2.2.2 → mapL m l = (r.1, r.2.1, r.2.2.1, r.2.2.2, true) → Mp r.1 r.2.1 r.2.2.1 r.2.2.2 := by
  induction l with
  | nil =>
    intro m r hm h
    simp only [mapL, Prod.mk.injEq] at h
    obtain ⟨h1, h2, h3, h4, _⟩ := h
    rw [← h1, ← h2, ← h3, ← h4]; exact hm
  | cons c l ih =>
    intro m r hm h
    simp only [mapL] at h
    split at h
    · rename_i hok
      exact ih (m := (_, _, _, _)) (bh_mp hok) h
    · simp at h
def twL (a : Int) : List UInt8 := List.replicate a.toNat 84 ++ List.replicate (-a).toNat 116
theorem twL_len (a n : Int) (h : -n ≤ a ∧ a ≤ n) : ((twL a).length : Int) ≤ n := by
  unfold twL; simp; omega
def dfA : Nat → List Int → List UInt8
  | 0, _ => []
  | n + 1, l => twL (rd l (n : Int)) ++ ((if 0 < n then [82] else []) ++ dfA n l)
theorem rep_snoc (n : Nat) (c : UInt8) (m : List UInt8) : m ++ [c] ++ List.replicate n c = m ++ List.replicate (n + 1) c := by
  rw [List.replicate_succ]; simp
theorem teL_bd (n : Nat) : ∀ (u d : Int), 0 < d → d ≤ n → n ≤ 60 → -60 ≤ u → u ≤ 60 → ∀ x ∈ teL n u d, -60 ≤ x ∧ x ≤ 60 := by
  induction n with
  | zero => intro u d h0 h1; omega
  | succ n ih =>
    intro u d h0 h1 h2 h3 h4 x hx
    have hc := ce_spec (u := u) h0
    have hb := ce_bd (n := 60) h0 ⟨h3, h4⟩ (by omega)
    simp only [teL] at hx
    split at hx
    · simp at hx; omega
    · rcases List.mem_cons.1 hx with h | h
      · rw [h]; exact hb
      · exact ih d (ce u d * d - u) (by omega) (by omega) (by omega) (by omega) (by omega) x h
theorem rd_bd (l : List Int) (n : Int) (h : ∀ x ∈ l, -n ≤ x ∧ x ≤ n) (i : Nat) (hi : i < l.length) : -n ≤ rd l (i : Int) ∧ rd l (i : Int) ≤ n := by
  rw [rd_eq l (i : Int) (by omega) (by omega)]
  exact h _ (List.getElem_mem _)
theorem spec_l4Twists_l1 (a : Int) (ha : -1000 ≤ a ∧ a ≤ 1000) (n : Nat) : ∀ (k : Nat) (l : List UInt8) (j : Int), n < k → 0 ≤ j → (-a - j).toNat = n → l.length + n ≤ 5000000 → spec_l4Twists.l1 k a (ofL l) j = some (ofL (l ++ List.replicate n 116)) := by
  induction n with
  | zero =>
    intro k l j hk h0 hn hl
    obtain ⟨k, rfl⟩ : ∃ m, k = m + 1 := ⟨k - 1, by omega⟩
    simp only [spec_l4Twists.l1]
    rw [w64 (by omega), if_neg (by omega)]
    simp
  | succ n ih =>
    intro k l j hk h0 hn hl
    obtain ⟨k, rfl⟩ : ∃ m, k = m + 1 := ⟨k - 1, by omega⟩
    simp only [spec_l4Twists.l1]
    have e : ofL l ++ (⟨#[116]⟩ : ByteArray) = ofL (l ++ [116]) := ofL_app l [116]
    rw [w64 (by omega), if_pos (by omega), if_pos (by rw [ofL_size]; omega), w64 (by omega), e, ih k _ (j + 1) (by omega) (by omega) (by omega) (by simp; omega), rep_snoc]
theorem spec_l4Twists_l0 (a : Int) (ha : -1000 ≤ a ∧ a ≤ 1000) (n : Nat) : ∀ (k : Nat) (l : List UInt8) (j : Int), n + 1002 < k → 0 ≤ j → (a - j).toNat = n → l.length + n ≤ 4000000 → spec_l4Twists.l0 k a (ofL l) j = some (ofL (l ++ (List.replicate n 84 ++ List.replicate (-a).toNat 116))) := by
  induction n with
  | zero =>
    intro k l j hk h0 hn hl
    obtain ⟨k, rfl⟩ : ∃ m, k = m + 1 := ⟨k - 1, by omega⟩
    simp only [spec_l4Twists.l0]
    rw [if_neg (by omega), spec_l4Twists_l1 a ha (-a).toNat k l 0 (by omega) (by omega) (by omega) (by omega)]
    simp
  | succ n ih =>
    intro k l j hk h0 hn hl
    obtain ⟨k, rfl⟩ : ∃ m, k = m + 1 := ⟨k - 1, by omega⟩
    simp only [spec_l4Twists.l0]
    have e : ofL l ++ (⟨#[84]⟩ : ByteArray) = ofL (l ++ [84]) := ofL_app l [84]
    rw [if_pos (by omega), if_pos (by rw [ofL_size]; omega), w64 (by omega), e, ih k _ (j + 1) (by omega) (by omega) (by omega) (by simp; omega), ← List.append_assoc, ← List.append_assoc, rep_snoc]
theorem spec_l4Twists_ev (k : Nat) (hk : 2100 ≤ k) (a : Int) (ha : -1000 ≤ a ∧ a ≤ 1000) : spec_l4Twists.f k a = some (ofL (twL a)) := by
  unfold spec_l4Twists.f
  have := spec_l4Twists_l0 a ha a.toNat k [] 0 (by omega) (by omega) (by omega) (by simp; omega)
  exact this
theorem dfA_len (n : Nat) (l : List Int) (hl : ∀ x ∈ l, -60 ≤ x ∧ x ≤ 60) (hn : n ≤ l.length) : (dfA n l).length ≤ 61 * n := by
  induction n with
  | zero => simp [dfA]
  | succ n ih =>
    have h1 := twL_len (rd l (n : Int)) 60 (rd_bd l 60 hl n (by omega))
    have h2 := ih (by omega)
    have h3 : (if 0 < n then ([82] : List UInt8) else []).length ≤ 1 := by split <;> simp
    simp only [dfA, List.length_append]
    omega
theorem spec_l4Dance_l0 (l : List Int) (hl : ∀ x ∈ l, -60 ≤ x ∧ x ≤ 60) (n : Nat) : ∀ (k : Nat) (m : List UInt8), n + 2100 ≤ k → n ≤ l.length → n ≤ 1000 → m.length + 61 * n ≤ 1000000 → spec_l4Dance.l0 k l (ofL m) ((n : Int) - 1) = some (ofL (m ++ dfA n l)) := by
  induction n with
  | zero =>
    intro k m hk hn hn2 hm
    obtain ⟨k, rfl⟩ : ∃ j, k = j + 1 := ⟨k - 1, by omega⟩
    simp only [spec_l4Dance.l0]
    rw [if_neg (by omega)]
    simp [dfA]
  | succ n ih =>
    intro k m hk hn hn2 hm
    obtain ⟨k, rfl⟩ : ∃ j, k = j + 1 := ⟨k - 1, by omega⟩
    simp only [spec_l4Dance.l0]
    have e : ((n + 1 : Nat) : Int) - 1 = (n : Int) := by omega
    have hb := rd_bd l 60 hl n (by omega)
    have h1 := twL_len (rd l (n : Int)) 60 hb
    rw [e, if_pos (by omega), if_pos (by omega), if_pos (by omega), spec_l4Twists_ev k (by omega) _ (by omega), w64 (by omega)]
    rw [Option.bind_some, ofL_app, if_pos (by rw [ofL_size, ofL_size]; omega)]
    have eR : (⟨#[82]⟩ : ByteArray) = ofL [82] := rfl
    by_cases h0 : (n : Int) > 0
    · rw [if_pos h0, eR, ofL_app, if_pos (by rw [ofL_size, List.length_append]; omega), ih k _ (by omega) (by omega) (by omega) (by simp; omega)]
      simp only [dfA]
      rw [if_pos (by omega)]
      simp
    · rw [if_neg h0, ih k _ (by omega) (by omega) (by omega) (by simp; omega)]
      simp only [dfA]
      rw [if_neg (by omega)]
      simp
def dfL (u d : Int) : List UInt8 := if d = 0 then [82] else dfA (teL 60 u d).length (teL 60 u d)
theorem spec_l4Dance_ev (k : Nat) (hk : 3000 ≤ k) (u d : Int) (h0 : 0 ≤ d) (h2 : d ≤ 60) (h3 : -60 ≤ u ∧ u ≤ 60) : spec_l4Dance.f k u d = some (ofL (dfL u d)) := by
  unfold spec_l4Dance.f dfL
  by_cases hd : d = 0
  · rw [if_pos hd, if_pos hd]; rfl
  · rw [if_neg hd, if_neg hd]
    unfold spec_l4Terms.f
    rw [spec_l4Terms_l0 60 k [] u d (by omega) (by omega) (by omega) h2 h3.1 h3.2 (by simp), Option.bind_some]
    have hlen := (teL_len 60 u d (by omega) (by omega)).1
    have hbd := teL_bd 60 u d (by omega) (by omega) (by omega) h3.1 h3.2
    rw [List.nil_append, w64 (by omega)]
    exact spec_l4Dance_l0 (teL 60 u d) hbd (teL 60 u d).length k [] (by omega) (by omega) (by omega) (by simp; omega)
theorem rev_l0 (l : List ByteArray) (hn : l.length ≤ 1000000) (d : Nat) : ∀ (k i : Nat) (x : List ByteArray), l.length - 2 * i ≤ d → d < k → i ≤ l.length → x.length = l.length → (∀ m : Nat, m < l.length → x[m]? = if m < i ∨ l.length - i ≤ m then l[l.length - 1 - m]? else l[m]?) → slices_Reverse_string_string.l0 k x (i : Int) ((l.length : Int) - 1 - i) = some l.reverse := by
  have fin : ∀ (i : Nat) (x : List ByteArray), i ≤ l.length → l.length ≤ 2 * i + 1 → x.length = l.length → (∀ m : Nat, m < l.length → x[m]? = if m < i ∨ l.length - i ≤ m then l[l.length - 1 - m]? else l[m]?) → x = l.reverse := by
    intro i x hi h2 hx hm
    apply List.ext_getElem?
    intro m
    by_cases hml : m < l.length
    · rw [hm m hml, List.getElem?_reverse hml]
      split
      · rfl
      · have : l.length - 1 - m = m := by omega
        rw [this]
    · rw [List.getElem?_eq_none (by omega), List.getElem?_eq_none (by simp; omega)]
  induction d with
  | zero =>
    intro k i x hd hk hi hx hm
    obtain ⟨k, rfl⟩ : ∃ m, k = m + 1 := ⟨k - 1, by omega⟩
    simp only [slices_Reverse_string_string.l0]
    rw [if_neg (by omega), fin i x hi (by omega) hx hm]
  | succ d ih =>
    intro k i x hd hk hi hx hm
    obtain ⟨k, rfl⟩ : ∃ m, k = m + 1 := ⟨k - 1, by omega⟩
    simp only [slices_Reverse_string_string.l0]
    by_cases hlt : (i : Int) < (l.length : Int) - 1 - i
    · rw [if_pos hlt, if_pos (by omega), if_pos (by omega), if_pos (by omega), if_pos (by omega), w64 (by omega), w64 (by omega)]
      have e1 : (i : Int) + 1 = ((i + 1 : Nat) : Int) := by omega
      have e2 : (l.length : Int) - 1 - i - 1 = (l.length : Int) - 1 - ((i + 1 : Nat) : Int) := by omega
      have e3 : ((l.length : Int) - 1 - i).toNat = l.length - 1 - i := by omega
      rw [e1, e2, e3, Int.toNat_natCast]
      refine ih k (i + 1) _ (by omega) (by omega) (by omega) (by simp [hx]) ?_
      intro m hml
      have r1 : rdOf ByteArray.empty x ((l.length : Int) - 1 - i) = l[l.length - 1 - i]'(by omega) := by
        show x.getD (((l.length : Int) - 1 - i)).toNat _ = _
        rw [e3, List.getD_eq_getElem?_getD, hm _ (by omega), if_neg (by omega), List.getElem?_eq_getElem (by omega)]; rfl
      have r2 : rdOf ByteArray.empty x (i : Int) = l[i]'(by omega) := by
        show x.getD ((i : Int)).toNat _ = _
        rw [Int.toNat_natCast, List.getD_eq_getElem?_getD, hm _ (by omega), if_neg (by omega), List.getElem?_eq_getElem (by omega)]; rfl
      rw [r1, r2, List.getElem?_set, List.getElem?_set]
      by_cases c1 : l.length - 1 - i = m
      · rw [if_pos c1, if_pos (by simp; omega), if_pos (by omega)]
        have : l.length - 1 - m = i := by omega
        rw [this, List.getElem?_eq_getElem (by omega)]
      · rw [if_neg c1]
        by_cases c2 : i = m
        · rw [if_pos c2, if_pos (by omega), if_pos (by omega), ← c2, List.getElem?_eq_getElem (by omega)]
        · rw [if_neg c2, hm m hml]
          by_cases c3 : m < i ∨ l.length - i ≤ m
          · rw [if_pos c3, if_pos (by omega)]
          · rw [if_neg c3, if_neg (by omega)]
    · rw [if_neg hlt, fin i x hi (by omega) hx hm]
theorem rev_ev (k : Nat) (l : List ByteArray) (hn : l.length ≤ 1000000) (hk : l.length < k) : slices_Reverse_string_string.f k l = some l.reverse := by
  unfold slices_Reverse_string_string.f
  rw [w64 (by omega)]
  have := rev_l0 l hn l.length k 0 l (by omega) hk (by omega) rfl (fun m hm => by rw [if_neg (by omega)])
  have e : (l.length : Int) - 1 - ((0 : Nat) : Int) = (l.length : Int) - 1 := by omega
  rw [e] at this
  exact this
theorem twists_ev (a : Int) (h : -1000000 ≤ a ∧ a ≤ 1000000) : impl_twists.f a = some (ofL (twL a)) := by
  unfold impl_twists.f; rw [if_pos h]; rfl
theorem join_dfA (l : List Int) (n : Nat) : n ≤ l.length → Lib.join ((l.take n).map twL).reverse [82] = dfA n l := by
  induction n with
  | zero => intro _; rfl
  | succ n ih =>
    intro hn
    have hlt : n < l.length := by omega
    have hr : rd l (n : Int) = l[n] := by rw [rd_eq l (n : Int) (by omega) (by omega)]; rfl
    rw [List.take_succ_eq_append_getElem hlt, List.map_append, List.reverse_append]
    show Lib.join (twL l[n] :: ((l.take n).map twL).reverse) [82] = _
    rw [Lib.join_cons]
    simp only [dfA]
    rw [hr, ← ih (by omega)]
    congr 1
    by_cases h0 : 0 < n
    · rw [if_pos h0]
      cases hq : ((l.take n).map twL).reverse with
      | nil =>
        have hl : ((l.take n).map twL).reverse.length = n := by rw [List.length_reverse, List.length_map, List.length_take]; omega
        rw [hq] at hl
        simp only [List.length_nil] at hl
        omega
      | cons y r =>
        rw [Lib.join_cons]
        simp [Lib.joinTail]
    · have : n = 0 := by omega
      subst this
      rfl
theorem impl_danceFor_l0 (l : List Int) (hl : ∀ x ∈ l, -60 ≤ x ∧ x ≤ 60) (hlen : l.length ≤ 60) (d : Nat) : ∀ (k i : Nat), i + d = l.length → d + 200 ≤ k → impl_danceFor.l0 k ((l.take i).map fun a => ofL (twL a)) l (l.length : Int) (i : Int) = some (ofL (dfA l.length l)) := by
  induction d with
  | zero =>
    intro k i hi hk
    obtain ⟨k, rfl⟩ : ∃ m, k = m + 1 := ⟨k - 1, by omega⟩
    simp only [impl_danceFor.l0]
    rw [if_neg (by omega), rev_ev _ _ (by simp; omega) (by simp; omega), Option.bind_some]
    have e0 : (⟨#[82]⟩ : ByteArray) = ofL [82] := rfl
    have e : (((l.take i).map fun a => ofL (twL a)).reverse.map fun s : ByteArray => s.data.toList) = ((l.take l.length).map twL).reverse := by
      have : i = l.length := by omega
      rw [this, List.map_reverse, List.map_map]
      congr 1
    have hj := join_dfA l l.length (Nat.le_refl _)
    have hd := dfA_len l.length l hl (Nat.le_refl _)
    unfold strings_Join.f
    rw [e0, ofL_data, e, hj, if_pos (by constructor <;> first | (simp; omega) | omega)]
    rfl
  | succ d ih =>
    intro k i hi hk
    obtain ⟨k, rfl⟩ : ∃ m, k = m + 1 := ⟨k - 1, by omega⟩
    simp only [impl_danceFor.l0]
    have hlt : i < l.length := by omega
    have hb := rd_bd l 60 hl i hlt
    have hr : rd l (i : Int) = l[i] := by rw [rd_eq l (i : Int) (by omega) (by omega)]; rfl
    have e1 : (i : Int) + 1 = ((i + 1 : Nat) : Int) := by omega
    rw [if_pos (by omega), if_pos (by omega), if_pos (by omega), twists_ev _ (by omega), Option.bind_some, if_pos (by simp; omega), w64 (by omega), e1, hr]
    have e2 : ((l.take i).map fun a => ofL (twL a)) ++ [ofL (twL l[i])] = (l.take (i + 1)).map fun a => ofL (twL a) := by
      rw [List.take_succ_eq_append_getElem hlt, List.map_append]; rfl
    rw [e2]
    exact ih k (i + 1) (by omega) (by omega)
theorem impl_danceFor_ev (k : Nat) (hk : 1000 ≤ k) (u d : Int) (h0 : 0 ≤ d) (h2 : d ≤ 60) (h3 : -60 ≤ u ∧ u ≤ 60) : impl_danceFor.f k u d = some (ofL (dfL u d)) := by
  unfold impl_danceFor.f dfL
  by_cases hd : d = 0
  · rw [if_pos hd, if_pos hd]; rfl
  · rw [if_neg hd, if_neg hd, impl_termsOf_ev k (by omega) u d (by omega) h2 h3, Option.bind_some]
    have hlen := (teL_len 60 u d (by omega) (by omega)).1
    have hbd := teL_bd 60 u d (by omega) (by omega) (by omega) h3.1 h3.2
    exact impl_danceFor_l0 (teL 60 u d) hbd (by omega) (teL 60 u d).length k 0 (by omega) (by omega)
theorem mp_gcd1 {a b c d : Int} (h : Mp a b c d) : Int.gcd a c = 1 := by
  have hd := h.2.2.2.2.1
  have h1 : (Int.gcd a c : Int) ∣ 1 := by
    rw [← hd]
    exact Int.dvd_sub (Int.dvd_trans (gcd_dvd a c).1 (Int.dvd_mul_right a d)) (Int.dvd_trans (gcd_dvd a c).2 (Int.dvd_mul_left b c))
  have := Int.le_of_dvd (by omega) h1
  have hp : Int.gcd a c ≠ 0 := by
    intro h0
    rw [h0] at h1
    have := Int.zero_dvd.1 h1
    omega
  omega
def rsL (a c : Int) : List UInt8 := 82 :: dfL a c
def okN (a c : Int) : Bool := (mapL (1, 0, 0, 1) (rsL a c)).2.2.2.2 && (decide ((mapL (1, 0, 0, 1) (rsL a c)).1 = a) && (decide ((mapL (1, 0, 0, 1) (rsL a c)).2.2.1 = c) && (decide (-30 ≤ (mapL (1, 0, 0, 1) (rsL a c)).2.1 ∧ (mapL (1, 0, 0, 1) (rsL a c)).2.1 ≤ 30) && (decide (-30 ≤ (mapL (1, 0, 0, 1) (rsL a c)).2.2.2.1 ∧ (mapL (1, 0, 0, 1) (rsL a c)).2.2.2.1 ≤ 30) && (dok (rsL a c) && decide ((rsL a c).length ≤ 900))))))
set_option maxRecDepth 100000 in
theorem okN_all : ((List.range 25).all fun a => (List.range 12).all fun c => !decide (Int.gcd ((a : Int) - 12) ((c : Int) + 1) = 1) || okN ((a : Int) - 12) ((c : Int) + 1)) = true := by decide +kernel
theorem okN_of {a c : Int} (ha : -12 ≤ a ∧ a ≤ 12) (hc : 1 ≤ c ∧ c ≤ 12) (h : Int.gcd a c = 1) : okN a c = true := by
  have e := okN_all
  rw [List.all_eq_true] at e
  have e1 := e (a + 12).toNat (by rw [List.mem_range]; omega)
  rw [List.all_eq_true] at e1
  have e2 := e1 (c - 1).toNat (by rw [List.mem_range]; omega)
  have q1 : ((a + 12).toNat : Int) - 12 = a := by omega
  have q2 : ((c - 1).toNat : Int) + 1 = c := by omega
  rw [q1, q2, decide_eq_true h] at e2
  simpa using e2
def R12 (x : Int) : Prop := -12 ≤ x ∧ x ≤ 12
instance (x : Int) : Decidable (R12 x) := by unfold R12; exact inferInstance
def Nm (a b c d : Int) : Prop := Mp a b c d ∧ R12 a ∧ R12 b ∧ R12 c ∧ R12 d
instance (a b c d : Int) : Decidable (Nm a b c d) := by unfold Nm; exact inferInstance
def nrP (a c : Int) : Int × Int := ((mapL (1, 0, 0, 1) (rsL a c)).2.1, (mapL (1, 0, 0, 1) (rsL a c)).2.2.2.1)
def nrN (a b c d : Int) : Int := (nrP a c).2 * b - (nrP a c).1 * d
def nrL (a b c d : Int) : List UInt8 := twL (nrN a b c d) ++ rsL a c
theorem mul360 {x y : Int} (hx : -30 ≤ x ∧ x ≤ 30) (hy : -12 ≤ y ∧ y ≤ 12) : -360 ≤ x * y ∧ x * y ≤ 360 := by
  have h1 : x.natAbs ≤ 30 := by omega
  have h2 : y.natAbs ≤ 12 := by omega
  have := Nat.mul_le_mul h1 h2
  rw [← Int.natAbs_mul] at this
  omega
theorem nm_facts {a b c d : Int} (h : Nm a b c d) (hc : ¬ c = 0) :
    mapL (1, 0, 0, 1) (rsL a c) = (a, (nrP a c).1, c, (nrP a c).2, true) ∧ -30 ≤ (nrP a c).1 ∧ (nrP a c).1 ≤ 30 ∧ -30 ≤ (nrP a c).2 ∧ (nrP a c).2 ≤ 30 ∧ dok (rsL a c) = true ∧ (rsL a c).length ≤ 900 ∧ Mp a (nrP a c).1 c (nrP a c).2
    ∧ -720 ≤ nrN a b c d ∧ nrN a b c d ≤ 720 ∧ d - (nrP a c).2 = c * nrN a b c d ∧ b - (nrP a c).1 = a * nrN a b c d ∧ 1 ≤ c := by
  obtain ⟨hm, ra, rb, rc, rd_⟩ := h
  have h1 : 1 ≤ c := by
    have := hm.2.2.2.2.2
    omega
  have ho := okN_of (a := a) (c := c) ra ⟨h1, rc.2⟩ (mp_gcd1 hm)
  unfold okN at ho
  simp only [Bool.and_eq_true, decide_eq_true_eq] at ho
  obtain ⟨o1, o2, o3, o4, o5, o6, o7⟩ := ho
  have e : mapL (1, 0, 0, 1) (rsL a c) = (a, (nrP a c).1, c, (nrP a c).2, true) := by
    unfold nrP
    generalize mapL (1, 0, 0, 1) (rsL a c) = q at o1 o2 o3 ⊢
    obtain ⟨q1, q2, q3, q4, q5⟩ := q
    simp only at o1 o2 o3 ⊢
    rw [o1, o2, o3]
  have hp : Mp a (nrP a c).1 c (nrP a c).2 := mapL_mp (rsL a c) (m := (1, 0, 0, 1)) (r := (a, (nrP a c).1, c, (nrP a c).2)) (by decide) e
  have d1 := hm.2.2.2.2.1
  have d2 := hp.2.2.2.2.1
  have o4' : -30 ≤ (nrP a c).1 ∧ (nrP a c).1 ≤ 30 := o4
  have o5' : -30 ≤ (nrP a c).2 ∧ (nrP a c).2 ≤ 30 := o5
  have m1 := mul360 o5' rb
  have m2 := mul360 o4' rd_
  refine ⟨e, o4'.1, o4'.2, o5'.1, o5'.2, o6, o7, hp, by unfold nrN; omega, by unfold nrN; omega, ?_, ?_, h1⟩
  · unfold nrN
    generalize (nrP a c).1 = x at d2 ⊢
    generalize (nrP a c).2 = y at d2 ⊢
    have s1 : c * (y * b - x * d) = y * (b * c) - (x * c) * d := by grind
    have s2 : b * c = a * d - 1 := by omega
    have s3 : x * c = a * y - 1 := by omega
    rw [s1, s2, s3]
    grind
  · unfold nrN
    generalize (nrP a c).1 = x at d2 ⊢
    generalize (nrP a c).2 = y at d2 ⊢
    have s1 : a * (y * b - x * d) = (a * y) * b - x * (a * d) := by grind
    have s2 : a * d = b * c + 1 := by omega
    have s3 : a * y = x * c + 1 := by omega
    rw [s1, s2, s3]
    grind
def nrR (a b c d : Int) : ByteArray × Bool := if c = 0 then (ofL (twL b), true) else if (nrL a b c d).length > 200 then (ofL [], false) else (ofL (nrL a b c d), true)
theorem spec_NormalOf_l0 (s : ByteArray) (h40 : s.size ≤ 2000) (a b c d : Int) (r : Int × Int × Int × Int) (v : Option (ByteArray × Bool)) (hv : ∀ k, 3000 ≤ k → spec_NormalOf.l0 (k + 1) s (s.size : Int) a b c d r.1 r.2.1 r.2.2.1 r.2.2.2 = v) (e : Nat) : ∀ (k : Nat) (i : Nat) (m : Int × Int × Int × Int), e + 3001 ≤ k → i + e = s.size → Mp m.1 m.2.1 m.2.2.1 m.2.2.2 → mapL m (s.data.toList.drop i) = (r.1, r.2.1, r.2.2.1, r.2.2.2, true) → spec_NormalOf.l0 k s (i : Int) a b c d m.1 m.2.1 m.2.2.1 m.2.2.2 = v := by
  have hsz : s.data.toList.length = s.size := by simp
  induction e with
  | zero =>
    intro k i m hk hd hm hr
    obtain ⟨k, rfl⟩ : ∃ m, k = m + 1 := ⟨k - 1, by omega⟩
    rw [List.drop_eq_nil_of_le (by omega)] at hr
    simp only [mapL, Prod.mk.injEq] at hr
    have ei : i = s.size := by omega
    rw [ei, hr.1, hr.2.1, hr.2.2.1, hr.2.2.2.1]
    exact hv k (by omega)
  | succ e ih =>
    intro k i m hk hd hm hr
    obtain ⟨k, rfl⟩ : ∃ m, k = m + 1 := ⟨k - 1, by omega⟩
    have hi : i < s.data.toList.length := by omega
    have hb' : bt s (i : Int) = (s.data.toList[i].toNat : Int) := bt_get s (i : Int) (by omega) (by omega)
    have e1 : ((i : Int) + 1) = ((i + 1 : Nat) : Int) := by omega
    simp only [spec_NormalOf.l0]
    rw [if_pos (by omega), if_pos (by omega), w64 (by omega), hb', e1, spec_l5Move_ev]
    rw [List.drop_eq_getElem_cons hi] at hr
    generalize s.data.toList[i] = x at hr ⊢
    have hp := mvM_mp x
    rw [Option.bind_some, spec_BehindOf_ev k (by omega), if_pos ⟨hm, hp⟩, Option.bind_some]
    simp only [mapL] at hr
    split at hr
    · rename_i hok
      exact ih k (i + 1) (_, _, _, _) (by omega) (by omega) (bh_mp hok) hr
    · simp at hr
theorem spec_NormalOf_tail (k : Nat) (hk : 6000 ≤ k) (a b c d : Int) (h : Nm a b c d) : spec_NormalOf.j0 (k + 1) false a b c d = some (nrR a b c d) := by
  simp only [spec_NormalOf.j0]
  rw [if_neg (by simp)]
  unfold nrR
  by_cases h0 : c = 0
  · have hb := h.2.2.1
    unfold R12 at hb
    rw [if_pos h0, if_pos h0, spec_l4Twists_ev k (by omega) b (by omega), Option.bind_some]
  · obtain ⟨e, p1, p2, p3, p4, hdok, hlen, hp, n1, n2, hdc, hba, h1⟩ := nm_facts h h0
    have ra := h.2.1
    have rc := h.2.2.2.1
    have rd_ := h.2.2.2.2
    unfold R12 at ra rc rd_
    rw [if_neg h0, if_neg h0, spec_l4Dance_ev k (by omega) a c (by omega) (by omega) (by omega), Option.bind_some]
    have hl : (dfL a c).length ≤ 900 := by have : (rsL a c).length = (dfL a c).length + 1 := rfl; omega
    have eR : (⟨#[82]⟩ : ByteArray) ++ ofL (dfL a c) = ofL (rsL a c) := ofL_app [82] (dfL a c)
    rw [if_pos (by rw [ofL_size]; omega), eR]
    refine spec_NormalOf_l0 (ofL (rsL a c)) (by rw [ofL_size]; omega) a b c d (a, (nrP a c).1, c, (nrP a c).2) _ ?_ (ofL (rsL a c)).size k 0 (1, 0, 0, 1) (by rw [ofL_size]; omega) (by omega) (by decide) (by rw [ofL_data]; exact e)
    intro k hk
    simp only [spec_NormalOf.l0]
    have hn := hdc
    have eq : (d - (nrP a c).2).tdiv c = nrN a b c d := by rw [hdc]; exact Int.mul_tdiv_cancel_left _ h0
    rw [if_neg (by omega), if_neg h0, w64 (by omega : -9223372036854775808 ≤ d - (nrP a c).2 ∧ _), eq, w64 (by omega), spec_l4Twists_ev k (by omega) _ (by omega), Option.bind_some]
    have ht := twL_len (nrN a b c d) 720 (by omega)
    rw [if_pos (by rw [ofL_size, ofL_size]; omega), ofL_app]
    show (if ((ofL (nrL a b c d)).size : Int) > 200 then some ((⟨#[]⟩ : ByteArray), false) else some (ofL (nrL a b c d), true)) = _
    rw [ofL_size]
    by_cases hg : (nrL a b c d).length > 200
    · rw [if_pos hg, if_pos (by omega)]; rfl
    · rw [if_neg hg, if_neg (by omega)]
theorem spec_NormalOf_ev (k : Nat) (hk : 6001 ≤ k) (a b c d : Int) : spec_NormalOf.f k a b c d = some (if Nm a b c d then nrR a b c d else (ofL [], false)) := by
  obtain ⟨k, rfl⟩ : ∃ m, k = m + 1 := ⟨k - 1, by omega⟩
  have no : spec_NormalOf.j0 (k + 1) true a b c d = some (ofL [], false) := by
    simp only [spec_NormalOf.j0]
    rw [if_pos trivial]; rfl
  have l1 : ∀ x : Int, spec_l1In.f x (-12) 12 = some (decide (R12 x)) := fun x => spec_l1In_ev x (-12) 12
  unfold spec_NormalOf.f
  rw [spec_MapOk_ev, no, l1, l1, l1]
  simp only [Option.bind_some, decide_eq_true_eq]
  by_cases h1 : Mp a b c d
  · rw [if_pos h1]
    by_cases h2 : R12 a
    · rw [if_pos h2]
      by_cases h3 : R12 b
      · rw [if_pos h3]
        by_cases h4 : c > 12
        · rw [if_pos h4, if_neg (fun x : Nm a b c d => by have := x.2.2.2.1; unfold R12 at this; omega)]
        · have hc : R12 c := by
            have := h1.2.2.2.2.2
            unfold R12; omega
          rw [if_neg h4]
          by_cases h5 : R12 d
          · have hN : Nm a b c d := ⟨h1, h2, h3, hc, h5⟩
            rw [decide_eq_true h5, if_pos hN]
            exact spec_NormalOf_tail k (by omega) a b c d hN
          · rw [decide_eq_false h5, if_neg (fun x : Nm a b c d => h5 x.2.2.2.2)]
            exact no
      · rw [if_neg h3, if_neg (fun x : Nm a b c d => h3 x.2.2.1)]
    · rw [if_neg h2, if_neg (fun x : Nm a b c d => h2 x.2.1)]
  · rw [if_neg h1, if_neg (fun x : Nm a b c d => h1 x.1)]
theorem w_lit4 : wrap64 (0 + 1) = 1 ∧ wrap64 (1 + 1) = 2 ∧ wrap64 (2 + 1) = 3 ∧ wrap64 (3 + 1) = 4 := by refine ⟨?_, ?_, ?_, ?_⟩ <;> (unfold wrap64; omega)
theorem impl_NormalOf_l0 (k : Nat) (hk : 3000 ≤ k) (a b c d : Int) (hm : Mp a b c d) : impl_NormalOf.l0 (k + 5) [a, b, c, d] 4 0 a b c d = some (if Nm a b c d then nrR a b c d else (ofL [], false)) := by
  obtain ⟨w1, w2, w3, w4⟩ := w_lit4
  have e0 : (⟨#[]⟩ : ByteArray) = ofL [] := rfl
  have r0 : rd [a, b, c, d] 0 = a := rfl
  have r1 : rd [a, b, c, d] 1 = b := rfl
  have r2 : rd [a, b, c, d] 2 = c := rfl
  have r3 : rd [a, b, c, d] 3 = d := rfl
  have rl : ([a, b, c, d].length : Int) = 4 := rfl
  have no : ∀ x : Int, (Nm a b c d → R12 x) → ∀ z : Option (ByteArray × Bool), (R12 x → z = some (if Nm a b c d then nrR a b c d else (ofL [], false))) → (if x < (-12) then some (ofL [], false) else if x > 12 then some (ofL [], false) else z) = some (if Nm a b c d then nrR a b c d else (ofL [], false)) := by
    intro x hx z hz
    by_cases h1 : x < -12
    · rw [if_pos h1, if_neg (fun y => by have := hx y; unfold R12 at this; omega)]
    · rw [if_neg h1]
      by_cases h2 : x > 12
      · rw [if_pos h2, if_neg (fun y => by have := hx y; unfold R12 at this; omega)]
      · rw [if_neg h2]
        exact hz ⟨by omega, by omega⟩
  rw [impl_NormalOf.l0.eq_2, if_pos (by decide), if_pos (by decide), rl, if_pos (by decide), r0, e0, w1]
  refine no a (fun y => y.2.1) _ fun ra => ?_
  rw [impl_NormalOf.l0.eq_2, if_pos (by decide), if_pos (by decide), rl, if_pos (by decide), r1, e0, w2]
  refine no b (fun y => y.2.2.1) _ fun rb => ?_
  rw [impl_NormalOf.l0.eq_2, if_pos (by decide), if_pos (by decide), rl, if_pos (by decide), r2, e0, w3]
  refine no c (fun y => y.2.2.2.1) _ fun rc => ?_
  rw [impl_NormalOf.l0.eq_2, if_pos (by decide), if_pos (by decide), rl, if_pos (by decide), r3, e0, w4]
  refine no d (fun y => y.2.2.2.2) _ fun rd_ => ?_
  have hN : Nm a b c d := ⟨hm, ra, rb, rc, rd_⟩
  rw [impl_NormalOf.l0.eq_2, if_neg (by decide), if_pos hN]
  unfold nrR
  have rb' : -12 ≤ b ∧ b ≤ 12 := rb
  by_cases h0 : c = 0
  · rw [if_pos h0, if_pos h0, twists_ev b (by omega), Option.bind_some]
  · obtain ⟨e, p1, p2, p3, p4, hdok, hlen, hp, n1, n2, hdc, hba, h1⟩ := nm_facts hN h0
    have ra' : -12 ≤ a ∧ a ≤ 12 := ra
    have rc' : -12 ≤ c ∧ c ≤ 12 := rc
    rw [if_neg h0, if_neg h0, impl_danceFor_ev k (by omega) a c (by omega) (by omega) (by omega), Option.bind_some]
    have hl : (dfL a c).length ≤ 900 := by have : (rsL a c).length = (dfL a c).length + 1 := rfl; omega
    have eR : (⟨#[82]⟩ : ByteArray) ++ ofL (dfL a c) = ofL (rsL a c) := ofL_app [82] (dfL a c)
    have qa : Pt a := hm.1
    have qb : Pt b := hm.2.1
    have qc : Pt c := hm.2.2.1
    have qd : Pt d := hm.2.2.2.1
    have qx : Pt (nrP a c).1 := hp.2.1
    have qy : Pt (nrP a c).2 := hp.2.2.2.1
    have d2 : (nrP a c).2 * a - (nrP a c).1 * c = 1 := by
      have := hp.2.2.2.2.1
      rw [Int.mul_comm (nrP a c).2 a]; exact this
    rw [if_pos (by rw [ofL_size]; omega), eR, impl_mapOf_ev k _ (by rw [ofL_size]; omega) (by omega), ofL_data, e, Option.bind_some]
    dsimp only
    rw [wdet qy qx qc qa, d2, if_neg (by decide), wdet qy qx qd qb]
    have en : (nrP a c).2 * b - (nrP a c).1 * d = nrN a b c d := rfl
    rw [en, twists_ev _ (by omega), Option.bind_some]
    have ht := twL_len (nrN a b c d) 720 (by omega)
    rw [if_pos (by rw [ofL_size, ofL_size]; omega), ofL_app]
    show (if ((ofL (nrL a b c d)).size : Int) > 200 then some (ofL [], false) else some (ofL (nrL a b c d), true)) = _
    rw [ofL_size]
    by_cases hg : (nrL a b c d).length > 200
    · rw [if_pos hg, if_pos (by omega)]
    · rw [if_neg hg, if_neg (by omega)]
theorem impl_NormalOf_ev (k : Nat) (hk : 3005 ≤ k) (a b c d : Int) : impl_NormalOf.f k a b c d = some (if Nm a b c d then nrR a b c d else (ofL [], false)) := by
  obtain ⟨k, rfl⟩ : ∃ m, k = m + 5 := ⟨k - 5, by omega⟩
  unfold impl_NormalOf.f
  rw [impl_isMap_ev, Option.bind_some]
  simp only [decide_eq_true_eq]
  by_cases h : Mp a b c d
  · rw [if_pos h, Option.bind_some]
    exact impl_NormalOf_l0 k (by omega) a b c d h
  · rw [if_neg h, if_neg (fun x : Nm a b c d => h x.1)]; rfl
theorem FnExactNormalOf (a b c d : Int) (wa : (Lit.int .i64 a).wf = true) (wb : (Lit.int .i64 b).wf = true) (wc : (Lit.int .i64 c).wf = true) (wd : (Lit.int .i64 d).wf = true) : ∃ k, laws_FnExactNormalOf.f k a b c d = some true := by
  refine ⟨3000000, ?_⟩
  unfold laws_FnExactNormalOf.f
  simp only [laws_toMap_ev, Option.bind_some]
  rw [spec_NormalOf_ev _ (by omega), impl_NormalOf_ev _ (by omega)]
  simp
end Go.Proofs.Ytpjiimlcdifneaa.Pure
