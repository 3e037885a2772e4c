/- The pure part of the law FnOrderOf: the printed law answers true at all codes. No conditions. -/
import Derived.Test.YtmckeejjddablaaCFnOrderOf
import Derived.OpenShut
namespace Go.Proofs.Ytmckeejjddablaa.Pure
open Go.RowKit Go.Proofs.Ytmckeejjddablaa.PFnOrderOf Go.Proofs.YtmckeejjddablaaW.PrintWords Go.Proofs.YtmckeejjddablaaW.PrintLast Go.Proofs.YtmckeejjddablaaW.PrintMore
set_option linter.unusedVariables false
set_option linter.unusedSimpArgs false
theorem st {P : Prop} [Decidable P] (h : P) : some true = some (decide P) := by simp [h]
theorem sf {P : Prop} [Decidable P] (h : ¬P) : some false = some (decide P) := by simp [h]
theorem sd {P Q : Prop} [Decidable P] [Decidable Q] (h : P ↔ Q) : some (decide P) = some (decide Q) := by simp [h]
theorem w64 {n : Int} (h : -9223372036854775808 ≤ n ∧ n ≤ 9223372036854775807) : wrap64 n = n := by unfold wrap64; omega
def Fr (u d : Int) : Prop := -1000000 ≤ u ∧ u ≤ 1000000 ∧ 0 ≤ d ∧ d ≤ 1000000 ∧ (d = 0 → u = 1) ∧ (Int.gcd u d = 1)
instance (u d : Int) : Decidable (Fr u d) := by unfold Fr; exact inferInstance
def Pt (n : Int) : Prop := -1000000 ≤ n ∧ n ≤ 1000000
instance (n : Int) : Decidable (Pt n) := by unfold Pt; exact inferInstance
theorem gcd_step (a b : Int) : Int.gcd b (Int.tmod a b) = Int.gcd a b := by
  unfold Int.gcd
  rw [Int.natAbs_tmod, Nat.gcd_comm a.natAbs b.natAbs, Nat.gcd_rec b.natAbs a.natAbs, Nat.gcd_comm]
theorem tmod_lt (a b : Int) (h : b ≠ 0) : (Int.tmod a b).natAbs < b.natAbs := by
  rw [Int.natAbs_tmod]
  exact Nat.mod_lt _ (by omega)
theorem tdiv_le (a b : Int) : (Int.tdiv a b).natAbs ≤ a.natAbs := by
  rw [Int.natAbs_tdiv]
  exact Nat.div_le_self _ _
theorem mulb {a b : Int} (ha : Pt a) (hb : Pt b) : -1000000000000 ≤ a * b ∧ a * b ≤ 1000000000000 := by
  unfold Pt at ha hb
  have h1 : a.natAbs ≤ 1000000 := by omega
  have h2 : b.natAbs ≤ 1000000 := by omega
  have := Nat.mul_le_mul h1 h2
  rw [← Int.natAbs_mul] at this
  omega
theorem wmul {a b : Int} (ha : Pt a) (hb : Pt b) : wrap64 (a * b) = a * b := by
  have := mulb ha hb
  exact w64 (by omega)
theorem wtwo {x y z w : Int} (hx : Pt x) (hy : Pt y) (hz : Pt z) (hw : Pt w) : wrap64 (wrap64 (x * y) + wrap64 (z * w)) = x * y + z * w := by
  have h1 := mulb hx hy
  have h2 := mulb hz hw
  rw [wmul hx hy, wmul hz hw]
  exact w64 (by omega)
def Bg (n : Int) : Prop := -2000000000000 ≤ n ∧ n ≤ 2000000000000
theorem two_bg {x y z w : Int} (hx : Pt x) (hy : Pt y) (hz : Pt z) (hw : Pt w) : Bg (x * y + z * w) := by
  have h1 := mulb hx hy
  have h2 := mulb hz hw
  unfold Bg; omega
theorem bg_neg {n : Int} (h : Bg n) : wrap64 (-n) = -n := by unfold Bg at h; exact w64 (by omega)
def t2 (n : Int) : Bool := decide (2 ≤ n ∧ n ≤ 60)
def ofL (l : List UInt8) : ByteArray := ⟨l.toArray⟩
theorem ofL_size (l : List UInt8) : (ofL l).size = l.length := by simp [ofL, ByteArray.size]
theorem ofL_app (l m : List UInt8) : ofL l ++ ofL m = ofL (l ++ m) := by
  apply ByteArray.ext; simp [ofL]
theorem bt_get (s : ByteArray) (i : Int) (h0 : 0 ≤ i) (h : i.toNat < s.size) : bt s i = (s.data.toList[i.toNat]'(by simpa using h)).toNat := by
  unfold bt
  rw [dif_pos h]
  rfl
def mv (c : UInt8) : Bool := c == 84 || c == 116 || c == 82
def dok (l : List UInt8) : Bool := l.all mv
theorem mv_iff (c : UInt8) : mv c = true ↔ ((c.toNat : Int) = 84 ∨ (c.toNat : Int) = 116 ∨ (c.toNat : Int) = 82) := by
  unfold mv
  simp only [Bool.or_eq_true, beq_iff_eq]
  have e1 : (84 : UInt8).toNat = 84 := rfl
  have e2 : (116 : UInt8).toNat = 116 := rfl
  have e3 : (82 : UInt8).toNat = 82 := rfl
  rw [← UInt8.toNat_inj, ← UInt8.toNat_inj, ← UInt8.toNat_inj, e1, e2, e3]
  omega
def Dn (s : ByteArray) : Prop := dok s.data.toList = true ∧ s.size ≤ 40
instance (s : ByteArray) : Decidable (Dn s) := by unfold Dn; exact inferInstance
theorem impl_isPart_ev (n : Int) : impl_isPart.f n = some (decide (Pt n)) := by
  unfold impl_isPart.f Pt
  split
  · exact sd (by omega)
  · exact sf (by omega)
theorem spec_l1In_ev (n a b : Int) : spec_l1In.f n a b = some (decide (a ≤ n ∧ n ≤ b)) := by
  unfold spec_l1In.f
  split
  · exact sd (by omega)
  · exact sf (by omega)
theorem impl_gcd_l0 (n : Nat) : ∀ (k : Nat) (a b : Int), b.natAbs ≤ n → n < k → a.natAbs ≤ 4611686018427387904 → b.natAbs ≤ 4611686018427387904 → impl_gcd.l0 k a b = some (Int.gcd a b : Int) := by
  induction n with
  | zero =>
    intro k a b hb hk ha _
    obtain ⟨k, rfl⟩ : ∃ m, k = m + 1 := ⟨k - 1, by omega⟩
    have hb0 : b = 0 := by omega
    simp only [impl_gcd.l0]
    rw [if_pos hb0, w64 (by omega), hb0, Int.gcd_zero_right]
    unfold mx; congr 1; split <;> omega
  | succ n ih =>
    intro k a b hb hk ha hb'
    obtain ⟨k, rfl⟩ : ∃ m, k = m + 1 := ⟨k - 1, by omega⟩
    simp only [impl_gcd.l0]
    by_cases h : b = 0
    · rw [if_pos h, w64 (by omega), h, Int.gcd_zero_right]
      unfold mx; congr 1; split <;> omega
    · rw [if_neg h]
      have := tmod_lt a b h
      rw [ih k b (Int.tmod a b) (by omega) (by omega) (by omega) (by omega), gcd_step]
theorem impl_gcd_ev (k : Nat) (hk : 1000002 ≤ k) (a b : Int) (ha : Pt a) (hb : Pt b) : impl_gcd.f k a b = some (Int.gcd a b : Int) := by
  unfold Pt at ha hb
  exact impl_gcd_l0 1000001 k a b (by omega) (by omega) (by omega) (by omega)
theorem impl_isFraction_ev (k : Nat) (hk : 1000002 ≤ k) (u d : Int) : impl_isFraction.f k u d = some (decide (Fr u d)) := by
  unfold impl_isFraction.f
  simp only [impl_isPart_ev, Option.bind_some, decide_eq_true_eq]
  by_cases hu : Pt u
  · rw [if_pos hu]
    by_cases h1 : d < 0
    · rw [if_pos h1]; exact sf (by intro h; unfold Fr at h; omega)
    · rw [if_neg h1]
      by_cases h2 : d > 1000000
      · rw [if_pos h2]; exact sf (by intro h; unfold Fr at h; omega)
      · rw [if_neg h2]
        have hd : Pt d := by unfold Pt; omega
        rw [impl_gcd_ev k hk u d hu hd]
        unfold Pt at hu
        have e : ((Int.gcd u d : Int) == 1) = decide (Int.gcd u d = 1) := by rw [Bool.eq_iff_iff]; simp; omega
        simp only [Option.bind_some, e]
        by_cases h3 : d = 0
        · rw [if_pos h3]
          by_cases h4 : u = 1
          · rw [if_pos h4]; exact sd (by unfold Fr; omega)
          · rw [if_neg h4]; exact sf (by intro h; unfold Fr at h; omega)
        · rw [if_neg h3]; exact sd (by unfold Fr; omega)
  · rw [if_neg hu]; exact sf (by intro h; unfold Fr at h; unfold Pt at hu; omega)
theorem impl_FractionOk_ev (k : Nat) (hk : 1000002 ≤ k) (u d : Int) : impl_FractionOk.f k u d = some (decide (Fr u d)) := by
  unfold impl_FractionOk.f
  rw [impl_isFraction_ev k hk]; rfl
def Mp (a b c d : Int) : Prop := Pt a ∧ Pt b ∧ Pt c ∧ Pt d ∧ a * d - b * c = 1 ∧ (0 < c ∨ c = 0 ∧ 0 < d)
instance (a b c d : Int) : Decidable (Mp a b c d) := by unfold Mp; exact inferInstance
theorem wdet {a b c d : Int} (ha : Pt a) (hb : Pt b) (hc : Pt c) (hd : Pt d) : wrap64 (wrap64 (a * d) - wrap64 (b * c)) = a * d - b * c := by
  have h1 := mulb ha hd
  have h2 := mulb hb hc
  rw [wmul ha hd, wmul hb hc]
  exact w64 (by omega)
theorem spec_MapOk_ev (a b c d : Int) : spec_MapOk.f a b c d = some (decide (Mp a b c d)) := by
  have pt : ∀ n : Int, (-1000000 ≤ n ∧ n ≤ 1000000) ↔ Pt n := fun n => Iff.rfl
  unfold spec_MapOk.f
  simp only [spec_l1In_ev, Option.bind_some, decide_eq_true_eq, pt]
  by_cases ha : Pt a
  · rw [if_pos ha]
    by_cases hb : Pt b
    · rw [if_pos hb]
      by_cases hc : 0 ≤ c ∧ c ≤ 1000000
      · rw [if_pos hc]
        have hc' : Pt c := by unfold Pt; omega
        by_cases hd : Pt d
        · rw [if_pos hd, wdet ha hb hc' hd]
          by_cases h : a * d - b * c = 1
          · rw [if_pos h]
            by_cases h3 : c > 0
            · rw [if_pos h3]; exact st ⟨ha, hb, hc', hd, h, Or.inl h3⟩
            · rw [if_neg h3]; exact sd ⟨fun x => ⟨ha, hb, hc', hd, h, Or.inr ⟨by omega, x⟩⟩, fun x => by have := x.2.2.2.2.2; omega⟩
          · rw [if_neg h]; exact sf (fun x => h x.2.2.2.2.1)
        · rw [if_neg hd]; exact sf (fun x => hd x.2.2.2.1)
      · rw [if_neg hc]; exact sf (fun x => hc (by have h1 := x.2.2.1; have h2 := x.2.2.2.2.2; unfold Pt at h1; omega))
    · rw [if_neg hb]; exact sf (fun x => hb x.2.1)
  · rw [if_neg ha]; exact sf (fun x => ha x.1)
theorem impl_isMap_ev (a b c d : Int) : impl_isMap.f a b c d = some (decide (Mp a b c d)) := by
  unfold impl_isMap.f
  simp only [impl_isPart_ev, Option.bind_some, decide_eq_true_eq]
  by_cases ha : Pt a
  · rw [if_pos ha]
    by_cases hb : Pt b
    · rw [if_pos hb]
      by_cases hc : Pt c
      · rw [if_pos hc]
        by_cases hd : Pt d
        · rw [if_pos hd, wdet ha hb hc hd]
          by_cases h : a * d - b * c = 1
          · rw [if_pos h]
            by_cases h3 : c > 0
            · rw [if_pos h3]; exact st ⟨ha, hb, hc, hd, h, Or.inl h3⟩
            · rw [if_neg h3]
              by_cases h4 : c = 0
              · rw [if_pos h4]; exact sd ⟨fun x => ⟨ha, hb, hc, hd, h, Or.inr ⟨h4, x⟩⟩, fun x => by have := x.2.2.2.2.2; omega⟩
              · rw [if_neg h4]; exact sf (fun x => by have := x.2.2.2.2.2; omega)
          · rw [if_neg h]; exact sf (fun x => h x.2.2.2.2.1)
        · rw [if_neg hd]; exact sf (fun x => hd x.2.2.2.1)
      · rw [if_neg hc]; exact sf (fun x => hc x.2.2.1)
    · rw [if_neg hb]; exact sf (fun x => hb x.2.1)
  · rw [if_neg ha]; exact sf (fun x => ha x.1)
def sgn5 (a b c d : Int) : Int × Int × Int × Int := if c < 0 ∨ (c = 0 ∧ d < 0) then (-a, -b, -c, -d) else (a, b, c, d)
def m5 (m : Int × Int × Int × Int) : Int × Int × Int × Int × Bool := if Mp m.1 m.2.1 m.2.2.1 m.2.2.2 then (m.1, m.2.1, m.2.2.1, m.2.2.2, true) else (0, 0, 0, 0, false)
def bh (a b c d a' b' c' d' : Int) : Int × Int × Int × Int × Bool := m5 (sgn5 (a' * a + b' * c) (a' * b + b' * d) (c' * a + d' * c) (c' * b + d' * d))
theorem spec_l5Signed_ev (a b c d : Int) (ha : Bg a) (hb : Bg b) (hc : Bg c) (hd : Bg d) : spec_l5Signed.f a b c d = some (sgn5 a b c d) := by
  unfold spec_l5Signed.f sgn5
  rw [bg_neg ha, bg_neg hb, bg_neg hc, bg_neg hd]
  by_cases h1 : c < 0
  · rw [if_pos h1, if_pos (Or.inl h1)]
  · rw [if_neg h1]
    by_cases h2 : c = 0
    · rw [if_pos h2]
      by_cases h3 : d < 0
      · rw [if_pos h3, if_pos (Or.inr ⟨h2, h3⟩)]
      · rw [if_neg h3, if_neg (by omega)]
    · rw [if_neg h2, if_neg (by omega)]
theorem spec_BehindOf_ev (k : Nat) (hk : 1 ≤ k) (a b c d a' b' c' d' : Int) : spec_BehindOf.f k a b c d a' b' c' d' = some (if Mp a b c d ∧ Mp a' b' c' d' then bh a b c d a' b' c' d' else (0, 0, 0, 0, false)) := by
  obtain ⟨k, rfl⟩ : ∃ m, k = m + 1 := ⟨k - 1, by omega⟩
  unfold spec_BehindOf.f
  simp only [spec_MapOk_ev, Option.bind_some, decide_eq_true_eq]
  by_cases h1 : Mp a b c d
  · rw [if_pos h1]
    by_cases h2 : Mp a' b' c' d'
    · have hp : Mp a b c d ∧ Mp a' b' c' d' := ⟨h1, h2⟩
      rw [if_pos hp]
      obtain ⟨pa, pb, pc, pd, _⟩ := h1
      obtain ⟨pa', pb', pc', pd', _⟩ := id h2
      have : (!decide (Mp a' b' c' d')) = false := by simpa using h2
      rw [this]
      simp only [spec_BehindOf.j0]
      rw [if_neg (by simp), wtwo pa' pa pb' pc, wtwo pa' pb pb' pd, wtwo pc' pa pd' pc, wtwo pc' pb pd' pd]
      rw [spec_l5Signed_ev _ _ _ _ (two_bg pa' pa pb' pc) (two_bg pa' pb pb' pd) (two_bg pc' pa pd' pc) (two_bg pc' pb pd' pd)]
      simp only [spec_MapOk_ev, Option.bind_some, decide_eq_true_eq]
      unfold bh m5
      split <;> rfl
    · have : (!decide (Mp a' b' c' d')) = true := by simpa using h2
      rw [this, if_neg (fun x => h2 x.2)]
      simp only [spec_BehindOf.j0]
      rw [if_pos trivial]
  · rw [if_neg h1, if_neg (fun x => h1 x.1)]
    simp only [spec_BehindOf.j0]
    rw [if_pos trivial]
theorem bh_or (a b c d a' b' c' d' : Int) : (∃ A B C D, bh a b c d a' b' c' d' = (A, B, C, D, true) ∧ Mp A B C D) ∨ bh a b c d a' b' c' d' = (0, 0, 0, 0, false) := by
  unfold bh m5
  split
  · exact Or.inl ⟨_, _, _, _, rfl, by assumption⟩
  · exact Or.inr rfl
theorem id_cond (A B C D : Int) : ((A == 1 && (B == 0 && (C == 0 && (D == 1)))) = true) ↔ (A = 1 ∧ B = 0 ∧ C = 0 ∧ D = 1) := by simp
theorem bh_id {a b c d : Int} (h : Mp a b c d) : bh 1 0 0 1 a b c d = (a, b, c, d, true) := by
  unfold bh
  simp only [Int.mul_one, Int.mul_zero, Int.add_zero, Int.zero_add]
  have h' := h.2.2.2.2.2
  have e : sgn5 a b c d = (a, b, c, d) := by unfold sgn5; rw [if_neg (by omega)]
  rw [e]
  unfold m5
  rw [if_pos h]
theorem mp_id : Mp 1 0 0 1 := by decide
theorem impl_behind_j0 (k : Nat) (x : Bool) (a b c d : Int) (ha : Bg a) (hb : Bg b) (hc : Bg c) (hd : Bg d) (hx : x = decide (c < 0 ∨ (c = 0 ∧ d < 0))) : impl_behind.j0 (k + 1) x a b c d = some (m5 (sgn5 a b c d)) := by
  simp only [impl_behind.j0]
  rw [bg_neg ha, bg_neg hb, bg_neg hc, bg_neg hd]
  simp only [impl_isMap_ev, Option.bind_some, decide_eq_true_eq]
  subst hx
  simp only [decide_eq_true_eq]
  unfold m5 sgn5
  by_cases h : c < 0 ∨ (c = 0 ∧ d < 0)
  · rw [if_pos h, if_pos h]
    split <;> rfl
  · rw [if_neg h, if_neg h]
    split <;> rfl
theorem impl_behind_ev (k : Nat) (hk : 1 ≤ k) (a b c d a' b' c' d' : Int) (h1 : Mp a b c d) (h2 : Mp a' b' c' d') : impl_behind.f k a b c d a' b' c' d' = some (bh a b c d a' b' c' d') := by
  obtain ⟨k, rfl⟩ : ∃ m, k = m + 1 := ⟨k - 1, by omega⟩
  obtain ⟨pa, pb, pc, pd, _⟩ := h1
  obtain ⟨pa', pb', pc', pd', _⟩ := h2
  unfold impl_behind.f bh
  rw [wtwo pa' pa pb' pc, wtwo pa' pb pb' pd, wtwo pc' pa pd' pc, wtwo pc' pb pd' pd]
  have j := fun x hx => impl_behind_j0 k x _ _ _ _ (two_bg pa' pa pb' pc) (two_bg pa' pb pb' pd) (two_bg pc' pa pd' pc) (two_bg pc' pb pd' pd) hx
  generalize c' * a + d' * c = m at *
  generalize c' * b + d' * d = n at *
  by_cases h3 : m < 0
  · rw [if_pos h3]; exact j true (by simp [h3])
  · rw [if_neg h3]
    by_cases h4 : m = 0
    · rw [if_pos h4]; exact j _ (by rw [decide_eq_decide]; omega)
    · rw [if_neg h4]; exact j false (by symm; rw [decide_eq_false_iff_not]; omega)
theorem impl_order_seven (k : Nat) (hk : 1 ≤ k) (n : Int) (hn : 6 < n) (a b c d A B C D : Int) : impl_OrderOf.l0 k n a b c d A B C D = some 0 := by
  obtain ⟨k, rfl⟩ : ∃ m, k = m + 1 := ⟨k - 1, by omega⟩
  simp only [impl_OrderOf.l0]
  rw [if_neg (by omega)]
theorem order_same (a b c d : Int) (hm : Mp a b c d) (j : Nat) : ∀ (k k' : Nat) (n A B C D : Int), j + 3 ≤ k → j + 3 ≤ k' → 1 ≤ n → n + j = 6 → Mp A B C D →
    impl_OrderOf.l0 k n a b c d A B C D = (if A = 1 ∧ B = 0 ∧ C = 0 ∧ D = 1 then some n else spec_OrderOf.l0 k' (n + 1) a b c d A B C D) := by
  induction j with
  | zero =>
    intro k k' n A B C D hk hk' h1 h6 hP
    obtain ⟨k, rfl⟩ : ∃ m, k = m + 1 := ⟨k - 1, by omega⟩
    obtain ⟨k', rfl⟩ : ∃ m, k' = m + 1 := ⟨k' - 1, by omega⟩
    simp only [impl_OrderOf.l0, spec_OrderOf.l0, id_cond]
    rw [if_pos (by omega : n ≤ 6), w64 (by omega), if_neg (by omega : ¬ n + 1 ≤ 6)]
    split
    · rfl
    · rw [impl_behind_ev _ (by omega) _ _ _ _ _ _ _ _ hP hm]
      simp only [Option.bind_some]
      split
      · rw [impl_order_seven k (by omega) _ (by omega)]
      · rfl
  | succ j ih =>
    intro k k' n A B C D hk hk' h1 h6 hP
    obtain ⟨k, rfl⟩ : ∃ m, k = m + 1 := ⟨k - 1, by omega⟩
    obtain ⟨k', rfl⟩ : ∃ m, k' = m + 1 := ⟨k' - 1, by omega⟩
    simp only [impl_OrderOf.l0, spec_OrderOf.l0, id_cond]
    rw [if_pos (by omega : n ≤ 6), w64 (by omega), if_pos (by omega : n + 1 ≤ 6)]
    split
    · rfl
    · rw [impl_behind_ev _ (by omega) _ _ _ _ _ _ _ _ hP hm, spec_BehindOf_ev _ (by omega)]
      have hp : Mp A B C D ∧ Mp a b c d := ⟨hP, hm⟩
      rw [if_pos hp]
      simp only [Option.bind_some]
      rcases bh_or A B C D a b c d with ⟨A', B', C', D', e, hP'⟩ | e
      · rw [e]
        simp only
        rw [if_pos trivial, if_pos trivial, ih k k' (n + 1) A' B' C' D' (by omega) (by omega) (by omega) (by omega) hP', w64 (by omega)]
      · rw [e]
        simp
theorem order_ev (k : Nat) (hk : 20 ≤ k) (a b c d : Int) : impl_OrderOf.f k a b c d = spec_OrderOf.f k a b c d := by
  unfold impl_OrderOf.f spec_OrderOf.f
  rw [impl_isMap_ev]
  obtain ⟨k, rfl⟩ : ∃ m, k = m + 1 := ⟨k - 1, by omega⟩
  simp only [Option.bind_some, decide_eq_true_eq]
  by_cases h : Mp a b c d
  · rw [if_pos h, order_same a b c d h 5 (k + 1) k 1 a b c d (by omega) (by omega) (by omega) (by omega) h]
    simp only [spec_OrderOf.l0, id_cond]
    have hp : Mp 1 0 0 1 ∧ Mp a b c d := ⟨mp_id, h⟩
    rw [spec_BehindOf_ev _ (by omega), if_pos hp, bh_id h]
    simp only [Option.bind_some]
    rw [if_pos (by decide : (1 : Int) ≤ 6), if_pos trivial, w64 (by omega)]
  · have hp : ¬ (Mp 1 0 0 1 ∧ Mp a b c d) := fun x => h x.2
    rw [if_neg h]
    simp only [spec_OrderOf.l0]
    rw [spec_BehindOf_ev _ (by omega), if_neg hp]
    simp
def Bs (l : List Int) : Prop := l.length ≤ 2000 ∧ ∀ i, 0 ≤ rd l i ∧ rd l i ≤ 255
theorem xor_nn (a b : Int) (ha : 0 ≤ a ∧ a ≤ 4611686018427387903) (hb : 0 ≤ b ∧ b ≤ 4611686018427387903) : 0 ≤ Go.bits .xor .i64 a b := by
  obtain ⟨m, rfl⟩ : ∃ m : Nat, a = m := ⟨a.toNat, by omega⟩
  obtain ⟨n, rfl⟩ : ∃ m : Nat, b = m := ⟨b.toNat, by omega⟩
  have hm : m < 2 ^ 62 := by omega
  have hn : n < 2 ^ 62 := by omega
  have hx := Nat.xor_lt_two_pow hm hn
  have e1 : m % 2 ^ IntKind.i64.bits = m := Nat.mod_eq_of_lt (Nat.lt_trans hm (by decide))
  have e2 : n % 2 ^ IntKind.i64.bits = n := Nat.mod_eq_of_lt (Nat.lt_trans hn (by decide))
  simp only [Go.bits, BitVec.ofInt_natCast, BitVec.toNat_xor, BitVec.toNat_ofNat, e1, e2]
  have e3 := IntKind.wrap_i64 ((m ^^^ n : Nat) : Int)
  rw [e3]
  omega
theorem tmod_rng (a n : Int) (ha : 0 ≤ a) (hn : 1 ≤ n) : 0 ≤ Int.tmod a n ∧ Int.tmod a n < n := ⟨Int.tmod_nonneg n ha, Int.tmod_lt_of_pos a (by omega)⟩
theorem pick_ev (k : Nat) (hk : 1 ≤ k) (l : List Int) (hl : Bs l) (p n : Int) (hp : 0 ≤ p ∧ p ≤ 1000000) (hn : n ≤ 10000000) :
    ∃ r, spec_l20Rd_pick.f k l p n = some (r, p + 1) ∧ 0 ≤ r ∧ (1 ≤ n → r < n) ∧ (n < 1 → r = 0) := by
  obtain ⟨k, rfl⟩ : ∃ m, k = m + 1 := ⟨k - 1, by omega⟩
  unfold spec_l20Rd_pick.f
  have e0 : wrap64 (p + 1) = p + 1 := w64 (by omega)
  have e1 : wrap64 (p + 1 - 1) = p := by rw [w64 (by omega)]; omega
  rw [e0]
  by_cases h1 : n < 1
  · rw [if_pos h1]
    simp only [spec_l20Rd_pick.j0]
    rw [if_pos trivial]
    exact ⟨0, rfl, by omega, by omega, fun _ => rfl⟩
  · rw [if_neg h1]
    simp only [spec_l20Rd_pick.j0]
    by_cases h2 : (l.length : Int) = 0
    · rw [if_pos (by simpa using h2)]
      exact ⟨0, rfl, by omega, by omega, fun _ => rfl⟩
    · rw [if_neg (by simpa using h2), e1]
      have hn0 : ¬ n = 0 := by omega
      by_cases h3 : p < (l.length : Int)
      · rw [if_pos h3, if_pos hp.1, if_neg hn0]
        have hr := hl.2 p
        rw [w64 (by omega : -9223372036854775808 ≤ rd l p ∧ _)]
        have := tmod_rng (rd l p) n (by omega) (by omega)
        exact ⟨_, rfl, this.1, fun _ => this.2, by omega⟩
      · rw [if_neg h3, if_neg h2]
        have t1 := tmod_rng p (l.length : Int) hp.1 (by omega)
        have e7 : wrap64 (wrap64 (p * 7) + 3) = p * 7 + 3 := by rw [w64 (by omega : -9223372036854775808 ≤ p * 7 ∧ _), w64 (by omega)]
        rw [e7]
        have t2 := tmod_rng (p * 7 + 3) (l.length : Int) (by omega) (by omega)
        rw [if_pos t1.1, if_pos t1.2, if_pos t2.1, if_pos t2.2, if_neg hn0]
        have r1 := hl.2 (Int.tmod p (l.length : Int))
        have r2 := hl.2 (Int.tmod (p * 7 + 3) (l.length : Int))
        generalize rd l (Int.tmod p (l.length : Int)) = a at r1 ⊢
        generalize rd l (Int.tmod (p * 7 + 3) (l.length : Int)) = b at r2 ⊢
        have q0 := tdiv_le p (l.length : Int)
        have q1 : 0 ≤ Int.tdiv p (l.length : Int) := Int.tdiv_nonneg hp.1 (by omega)
        generalize Int.tdiv p (l.length : Int) = q at q0 q1 ⊢
        have e2 : wrap64 a = a := w64 (by omega)
        have e3 : wrap64 b = b := w64 (by omega)
        have e4 : wrap64 q = q := w64 (by omega)
        rw [e2, e3, e4]
        have e5 : wrap64 (a * 131) = a * 131 := w64 (by omega)
        have e6 : wrap64 (b * 1117) = b * 1117 := w64 (by omega)
        have e8 : wrap64 (q * 53) = q * 53 := w64 (by omega)
        have e9 : wrap64 (p * 29) = p * 29 := w64 (by omega)
        rw [e5, e6, e8, e9]
        have e10 : wrap64 (a * 131 + b * 1117) = a * 131 + b * 1117 := w64 (by omega)
        rw [e10]
        have e11 : wrap64 (a * 131 + b * 1117 + p * 29) = a * 131 + b * 1117 + p * 29 := w64 (by omega)
        rw [e11]
        have e12 : wrap64 (a * 131 + b * 1117 + p * 29 + q * 53) = a * 131 + b * 1117 + p * 29 + q * 53 := w64 (by omega)
        rw [e12]
        have hX : 0 ≤ a * 131 + b * 1117 + p * 29 + q * 53 ∧ a * 131 + b * 1117 + p * 29 + q * 53 ≤ 4611686018427387903 := by omega
        generalize a * 131 + b * 1117 + p * 29 + q * 53 = X at hX ⊢
        have q2 := tdiv_le X 64
        have q3 : 0 ≤ Int.tdiv X 64 := Int.tdiv_nonneg hX.1 (by omega)
        have e13 : wrap64 (Int.tdiv X 64) = Int.tdiv X 64 := w64 (by omega)
        rw [e13]
        have := tmod_rng _ n (xor_nn X (Int.tdiv X 64) hX (by omega)) (by omega)
        exact ⟨_, rfl, this.1, fun _ => this.2, by omega⟩
theorem odd_ev (k : Nat) (hk : 1 ≤ k) (l : List Int) (hl : Bs l) (p n : Int) (hp : 0 ≤ p ∧ p ≤ 1000000) (hn : n ≤ 10000000) :
    ∃ b p', spec_l20Rd_odd.f k l p n = some (b, p') ∧ p ≤ p' ∧ p' ≤ p + 1 := by
  unfold spec_l20Rd_odd.f
  by_cases h : n > 0
  · rw [if_pos h]
    obtain ⟨r, e, _⟩ := pick_ev k hk l hl p n hp hn
    rw [e]
    exact ⟨_, _, rfl, by omega, by omega⟩
  · rw [if_neg h]; exact ⟨_, _, rfl, by omega, by omega⟩
theorem open_ev (l : List Int) (hw : ∀ x ∈ l, (Lit.int .u8 x).wf = true) : ∃ m, spec_l20Open.f l = some (m, 0) ∧ Bs m := by
  have key : ∀ m : List Int, m.length ≤ 2000 → (∀ x ∈ m, x ∈ l) → Bs m := by
    intro m hm hs
    refine ⟨hm, fun i => ?_⟩
    unfold rd
    by_cases h : i.toNat < m.length
    · have : m.getD i.toNat 0 = m[i.toNat] := by simp [h]
      rw [this]
      have h1 := hw _ (hs _ (List.getElem_mem h))
      simp [Lit.wf, IntKind.min, IntKind.max, IntKind.signed, IntKind.bits] at h1
      omega
    · have : m.getD i.toNat 0 = 0 := by simp [Nat.le_of_not_lt h]
      rw [this]; omega
  unfold spec_l20Open.f
  by_cases h : (l.length : Int) > 2000
  · rw [if_pos h, if_pos (by omega)]
    exact ⟨_, rfl, key _ (by simp; omega) (fun x hx => List.mem_of_mem_take hx)⟩
  · rw [if_neg h]
    exact ⟨_, rfl, key _ (by omega) (fun x hx => hx)⟩
theorem alive_ev (k : Nat) (hk : 1000002 ≤ k) : laws_alive.f k = some true := by
  unfold laws_alive.f
  simp only [impl_FractionOk_ev k hk, Option.bind_some]
  decide
theorem spec_DanceOk_l0 (s : ByteArray) (hn : s.size ≤ 1000000000) (d : Nat) : ∀ (k : Nat) (i : Int), 0 ≤ i → i + d = s.size → d < k → spec_DanceOk.l0 k s i = some (decide (dok (s.data.toList.drop i.toNat) = true ∧ s.size ≤ 40)) := by
  have hsz : s.data.toList.length = s.size := by simp
  induction d with
  | zero =>
    intro k i h0 hd hk
    obtain ⟨k, rfl⟩ : ∃ m, k = m + 1 := ⟨k - 1, by omega⟩
    simp only [spec_DanceOk.l0]
    rw [if_neg (by omega), List.drop_eq_nil_of_le (by omega)]
    exact sd ⟨fun x => ⟨rfl, by omega⟩, fun x => by omega⟩
  | succ d ih =>
    intro k i h0 hd hk
    obtain ⟨k, rfl⟩ : ∃ m, k = m + 1 := ⟨k - 1, by omega⟩
    simp only [spec_DanceOk.l0]
    have h1 : i.toNat < s.size := by omega
    have h2 : i.toNat < s.data.toList.length := by omega
    rw [if_pos (by omega), if_pos h0, w64 (by omega), ih k (i + 1) (by omega) (by omega) (by omega)]
    have e : (i + 1).toNat = i.toNat + 1 := by omega
    rw [e, bt_get s i h0 h1, List.drop_eq_getElem_cons h2]
    generalize s.data.toList[i.toNat] = c
    have hm := mv_iff c
    have hc : dok (c :: List.drop (i.toNat + 1) s.data.toList) = (mv c && dok (List.drop (i.toNat + 1) s.data.toList)) := rfl
    rw [hc]
    by_cases c1 : (c.toNat : Int) = 84
    · rw [if_pos c1]; have : mv c = true := hm.2 (Or.inl c1); rw [this, Bool.true_and]
    · rw [if_neg c1]
      by_cases c2 : (c.toNat : Int) = 116
      · rw [if_pos c2]; have : mv c = true := hm.2 (Or.inr (Or.inl c2)); rw [this, Bool.true_and]
      · rw [if_neg c2]
        by_cases c3 : (c.toNat : Int) = 82
        · rw [if_pos c3]; have : mv c = true := hm.2 (Or.inr (Or.inr c3)); rw [this, Bool.true_and]
        · rw [if_neg c3]
          have : mv c = false := by
            rcases Bool.eq_false_or_eq_true (mv c) with h | h
            · have := hm.1 h; omega
            · exact h
          rw [this, Bool.false_and]
          exact sf (by simp)
theorem spec_DanceOk_ev (k : Nat) (s : ByteArray) (hk : s.size < k) (hn : s.size ≤ 1000000000) : spec_DanceOk.f k s = some (decide (Dn s)) := by
  unfold spec_DanceOk.f
  rw [spec_DanceOk_l0 s hn s.size k 0 (by omega) (by omega) hk]
  rfl
theorem spec_l5Move_mp (c : Int) : ∃ a b c' d, spec_l5Move.f c = some (a, b, c', d) ∧ Mp a b c' d := by
  unfold spec_l5Move.f
  split
  · exact ⟨_, _, _, _, rfl, by decide⟩
  · split
    · exact ⟨_, _, _, _, rfl, by decide⟩
    · exact ⟨_, _, _, _, rfl, by decide⟩
theorem spec_MapOf_some (k : Nat) (s : ByteArray) (hk : s.size + 2 < k) (hn : s.size ≤ 1000000000) : ∃ a b c d ok, spec_MapOf.f k s = some (a, b, c, d, ok) ∧ (ok = true → Mp a b c d) := by
  have l : ∀ (d : Nat) (k : Nat) (i A B C D : Int), 0 ≤ i → i + d = s.size → d + 1 < k → Mp A B C D → ∃ a b c e ok, spec_MapOf.l0 k s i A B C D = some (a, b, c, e, ok) ∧ (ok = true → Mp a b c e) := by
    intro d
    induction d with
    | zero =>
      intro k i A B C D h0 hd hk hP
      obtain ⟨k, rfl⟩ : ∃ m, k = m + 1 := ⟨k - 1, by omega⟩
      simp only [spec_MapOf.l0]
      rw [if_neg (by omega)]
      exact ⟨_, _, _, _, _, rfl, fun _ => hP⟩
    | succ d ih =>
      intro k i A B C D h0 hd hk hP
      obtain ⟨k, rfl⟩ : ∃ m, k = m + 1 := ⟨k - 1, by omega⟩
      simp only [spec_MapOf.l0]
      rw [if_pos (by omega), if_pos h0, w64 (by omega)]
      obtain ⟨a', b', c', d', e, hm⟩ := spec_l5Move_mp (bt s i)
      rw [e]
      simp only [Option.bind_some]
      rw [spec_BehindOf_ev k (by omega)]
      have hp : Mp A B C D ∧ Mp a' b' c' d' := ⟨hP, hm⟩
      simp only [if_pos hp, Option.bind_some]
      rcases bh_or A B C D a' b' c' d' with ⟨A', B', C', D', e, hP'⟩ | e
      · rw [e]
        simp only [if_true]
        exact ih k (i + 1) _ _ _ _ (by omega) (by omega) (by omega) hP'
      · rw [e]
        exact ⟨_, _, _, _, _, rfl, fun x => by simp at x⟩
  unfold spec_MapOf.f
  rw [spec_DanceOk_ev k s (by omega) hn]
  simp only [Option.bind_some, decide_eq_true_eq]
  split
  · exact l s.size k 0 1 0 0 1 (by omega) (by omega) (by omega) (by decide)
  · exact ⟨_, _, _, _, _, rfl, fun x => by simp at x⟩
theorem rdOf_sz (L : List ByteArray) (h : ∀ x ∈ L, x.size ≤ 50) (r : Int) : (rdOf ByteArray.empty L r).size ≤ 50 := by
  unfold rdOf
  by_cases hr : r.toNat < L.length
  · have : L.getD r.toNat ByteArray.empty = L[r.toNat] := by simp [hr]
    rw [this]
    exact h _ (List.getElem_mem hr)
  · have : L.getD r.toNat ByteArray.empty = ByteArray.empty := by simp [Nat.le_of_not_lt hr]
    rw [this]
    decide
theorem dance_ev (k : Nat) (l : List Int) (hl : Bs l) (p a n : Int) (hk : a.toNat + 4 < k) (hp : 0 ≤ p ∧ p ≤ 900000) (ha : 0 ≤ a ∧ a ≤ 1000) (hn : n ≤ 10000000) :
    ∃ s p', spec_l20Dance.f k l p a n = some (s, p') ∧ p ≤ p' ∧ p' ≤ p + a + 5 ∧ s.size ≤ 50 * a.toNat + 50 := by
  have j : ∀ (d : Nat) (k : Nat) (s : ByteArray) (p : Int), d + 2 < k → 0 ≤ p → p + d ≤ 901010 → s.size + 50 * d ≤ 100000 → ∃ t p', spec_l20Dance.l0 k n s (d : Int) l p = some (t, p') ∧ p ≤ p' ∧ p' ≤ p + d + 2 ∧ t.size ≤ s.size + 50 * d + 50 := by
    intro d
    induction d with
    | zero =>
      intro k s p hk h0 h1 hs
      obtain ⟨k, rfl⟩ : ∃ m, k = m + 1 := ⟨k - 1, by omega⟩
      simp only [spec_l20Dance.l0]
      rw [if_neg (by omega)]
      obtain ⟨b, p', e, h2, h3⟩ := odd_ev k (by omega) l hl p n (by omega) hn
      rw [e]
      simp only [Option.bind_some]
      by_cases hb : b = true
      · rw [if_pos hb]
        obtain ⟨r, e2, h4, h5, _⟩ := pick_ev k (by omega) l hl p' 3 (by omega) (by omega)
        rw [e2]
        simp only [Option.bind_some]
        have h6 := h5 (by omega)
        rw [if_pos h4, if_pos (by simp only [List.length_cons, List.length_nil]; omega)]
        split
        · exact ⟨_, _, rfl, by omega, by omega, by rw [ByteArray.size_append]; exact Nat.le_trans (Nat.add_le_add_left (rdOf_sz _ (by decide) r) _) (by omega)⟩
        · rename_i hc
          exact absurd (Nat.le_trans (Nat.add_le_add_left (rdOf_sz _ (by decide) r) _) (by omega)) hc
      · rw [if_neg hb]
        exact ⟨_, _, rfl, by omega, by omega, by omega⟩
    | succ d ih =>
      intro k s p hk h0 h1 hs
      obtain ⟨k, rfl⟩ : ∃ m, k = m + 1 := ⟨k - 1, by omega⟩
      simp only [spec_l20Dance.l0]
      rw [if_pos (by omega)]
      simp only [Option.bind_some]
      obtain ⟨r, e2, h4, h5, _⟩ := pick_ev k (by omega) l hl p 6 (by omega) (by omega)
      rw [e2]
      simp only [Option.bind_some]
      have h6 := h5 (by omega)
      rw [if_pos h4, if_pos (by simp only [List.length_cons, List.length_nil]; omega), if_pos (Nat.le_trans (Nat.add_le_add_left (rdOf_sz _ (by decide) r) _) (by omega)), w64 (by omega)]
      have h7 := rdOf_sz [(⟨#[84]⟩ : ByteArray), (⟨#[84]⟩ : ByteArray), (⟨#[82]⟩ : ByteArray), (⟨#[116]⟩ : ByteArray), (⟨#[82]⟩ : ByteArray), (⟨#[84]⟩ : ByteArray)] (by decide) r
      have e3 : ((d + 1 : Nat) : Int) - 1 = (d : Int) := by omega
      rw [e3]
      obtain ⟨t, p', e4, h8, h9, h10⟩ := ih k (s ++ rdOf ByteArray.empty [(⟨#[84]⟩ : ByteArray), (⟨#[84]⟩ : ByteArray), (⟨#[82]⟩ : ByteArray), (⟨#[116]⟩ : ByteArray), (⟨#[82]⟩ : ByteArray), (⟨#[84]⟩ : ByteArray)] r) (p + 1) (by omega) (by omega) (by omega) (by rw [ByteArray.size_append]; omega)
      rw [ByteArray.size_append] at h10
      exact ⟨t, p', e4, by omega, by omega, by omega⟩
  unfold spec_l20Dance.f
  rw [w64 (by omega)]
  obtain ⟨r, e1, h1, h2, _⟩ := pick_ev k (by omega) l hl p (a + 1) (by omega) (by omega)
  rw [e1]
  simp only [Option.bind_some]
  have h3 := h2 (by omega)
  obtain ⟨d, rfl⟩ : ∃ d : Nat, r = d := ⟨r.toNat, by omega⟩
  obtain ⟨t, p', e4, h8, h9, h10⟩ := j d k (⟨#[]⟩ : ByteArray) (p + 1) (by omega) (by omega) (by omega) (by show 0 + 50 * d ≤ 100000; omega)
  have e0 : (⟨#[]⟩ : ByteArray).size = 0 := rfl
  rw [e0] at h10
  exact ⟨t, p', e4, by omega, by omega, by omega⟩
theorem map_ev (k : Nat) (hk : 1000004 ≤ k) (l : List Int) (hl : Bs l) (p n : Int) (hp : 0 ≤ p ∧ p ≤ 800000) (hn : n ≤ 10000000) :
    ∃ a b c d p', spec_l20Map.f k l p n = some (a, b, c, d, p') ∧ p ≤ p' ∧ p' ≤ p + 30 := by
  have j : ∀ (k : Nat) (p a b c d : Int), 2 ≤ k → 0 ≤ p → p ≤ 900010 → ∃ a' b' c' d' p', spec_l20Map.j0 k n l p a b c d = some (a', b', c', d', p') ∧ p ≤ p' ∧ p' ≤ p + 2 := by
    intro k p a b c d hk h0 h1
    obtain ⟨k, rfl⟩ : ∃ m, k = m + 1 := ⟨k - 1, by omega⟩
    simp only [spec_l20Map.j0]
    obtain ⟨b, p', e, h2, h3⟩ := odd_ev k (by omega) l hl p n (by omega) hn
    rw [e]
    simp only [Option.bind_some]
    by_cases hb : b = true
    · rw [if_pos hb]
      obtain ⟨r, e2, h4, h5, _⟩ := pick_ev k (by omega) l hl p' 4 (by omega) (by omega)
      rw [e2]
      simp only [Option.bind_some]
      have h6 := h5 (by omega)
      rw [if_pos h4, if_pos (by simp only [List.length_cons, List.length_nil]; omega)]
      exact ⟨_, _, _, _, _, rfl, by omega, by omega⟩
    · rw [if_neg hb]
      exact ⟨_, _, _, _, _, rfl, by omega, by omega⟩
  unfold spec_l20Map.f
  obtain ⟨s, p1, e1, h1, h2, h3⟩ := dance_ev k l hl p 12 0 (by omega) (by omega) (by omega) (by omega)
  rw [e1]
  simp only [Option.bind_some]
  obtain ⟨a, b, c, d, ok, e2, _⟩ := spec_MapOf_some k s (by omega) (by omega)
  rw [e2]
  simp only [Option.bind_some]
  split
  · obtain ⟨a', b', c', d', p', e, q1, q2⟩ := j k p1 a b c d (by omega) (by omega) (by omega)
    exact ⟨_, _, _, _, _, e, by omega, by omega⟩
  · obtain ⟨a', b', c', d', p', e, q1, q2⟩ := j k p1 1 0 0 1 (by omega) (by omega) (by omega)
    exact ⟨_, _, _, _, _, e, by omega, by omega⟩
theorem order_zero {a b c d : Int} (hm : Mp a b c d) (ht : a + d ≥ 2 ∨ a + d ≤ -2) (hne : ¬(a = 1 ∧ b = 0 ∧ c = 0 ∧ d = 1)) (j : Nat) : ∀ (k : Nat) (n u v A B C D : Int), j + 3 ≤ k → 1 ≤ n → n + j = 7 → Mp A B C D →
    A = u * a - v → B = u * b → C = u * c → D = u * d - v → v.natAbs < u.natAbs → spec_OrderOf.l0 k n a b c d A B C D = some 0 := by
  obtain ⟨pa, pb, pc, pd, hdet, hs⟩ := id hm
  have hbc : ¬(b = 0 ∧ c = 0) := by
    rintro ⟨hb, hc⟩
    subst hb hc
    rw [Int.mul_zero] at hdet
    have had : a * d = 1 := by omega
    have := Int.eq_one_of_mul_eq_one_left (show 0 ≤ d by omega) had
    subst this
    exact hne ⟨by omega, rfl, rfl, rfl⟩
  induction j with
  | zero =>
    intro k n u v A B C D hk h1 h7 hP eA eB eC eD huv
    obtain ⟨k, rfl⟩ : ∃ m, k = m + 1 := ⟨k - 1, by omega⟩
    simp only [spec_OrderOf.l0]
    rw [if_neg (by omega)]
  | succ j ih =>
    intro k n u v A B C D hk h1 h7 hP eA eB eC eD huv
    obtain ⟨k, rfl⟩ : ∃ m, k = m + 1 := ⟨k - 1, by omega⟩
    simp only [spec_OrderOf.l0, id_cond]
    have hp : Mp A B C D ∧ Mp a b c d := ⟨hP, hm⟩
    rw [if_pos (by omega : n ≤ 6), spec_BehindOf_ev _ (by omega), if_pos hp, w64 (by omega)]
    simp only [Option.bind_some]
    have x1 : a * A + b * C = (u * (a + d) - v) * a - u := by rw [eA, eC]; grind
    have x2 : a * B + b * D = (u * (a + d) - v) * b := by rw [eB, eD]; grind
    have x3 : c * A + d * C = (u * (a + d) - v) * c := by rw [eA, eC]; grind
    have x4 : c * B + d * D = (u * (a + d) - v) * d - u := by rw [eB, eD]; grind
    have hu' : u.natAbs < (u * (a + d) - v).natAbs := by
      have h2 : 2 * u.natAbs ≤ (u * (a + d)).natAbs := by
        rw [Int.natAbs_mul, Nat.mul_comm]
        exact Nat.mul_le_mul_left _ (by omega)
      omega
    have key : ∃ u' v', v'.natAbs < u'.natAbs ∧ bh A B C D a b c d = m5 (u' * a - v', u' * b, u' * c, u' * d - v') := by
      unfold bh
      rw [x1, x2, x3, x4]
      unfold sgn5
      split
      · refine ⟨-(u * (a + d) - v), -u, by omega, ?_⟩
        have y : ∀ z : Int, -(u * (a + d) - v) * z = -((u * (a + d) - v) * z) := fun z => Int.neg_mul _ _
        rw [y a, y b, y c, y d]
        have z1 : -((u * (a + d) - v) * a - u) = -((u * (a + d) - v) * a) - -u := by omega
        have z2 : -((u * (a + d) - v) * d - u) = -((u * (a + d) - v) * d) - -u := by omega
        rw [z1, z2]
      · exact ⟨u * (a + d) - v, u, by omega, rfl⟩
    obtain ⟨u', v', huv', eb⟩ := key
    rw [eb]
    unfold m5
    simp only
    by_cases hM : Mp (u' * a - v') (u' * b) (u' * c) (u' * d - v')
    · simp only [if_pos hM, if_true]
      rw [if_neg, ih k (n + 1) u' v' _ _ _ _ (by omega) (by omega) (by omega) hM rfl rfl rfl rfl huv']
      rintro ⟨_, hb, hc, _⟩
      have hu0 : u' ≠ 0 := by omega
      apply hbc
      constructor
      · rcases Int.mul_eq_zero.mp hb with h | h
        · exact absurd h hu0
        · exact h
      · rcases Int.mul_eq_zero.mp hc with h | h
        · exact absurd h hu0
        · exact h
    · simp only [if_neg hM]
      rfl
theorem order_val (k : Nat) (hk : 20 ≤ k) {a b c d : Int} (hm : Mp a b c d) : spec_OrderOf.f k a b c d = some (if a = 1 ∧ b = 0 ∧ c = 0 ∧ d = 1 then 1 else if a + d = 0 then 2 else if a + d = 1 ∨ a + d = -1 then 3 else 0) := by
  obtain ⟨k, rfl⟩ : ∃ m, k = m + 1 := ⟨k - 1, by omega⟩
  obtain ⟨pa, pb, pc, pd, hdet, hs⟩ := id hm
  unfold spec_OrderOf.f
  have hp : Mp 1 0 0 1 ∧ Mp a b c d := ⟨mp_id, hm⟩
  have hp2 : Mp a b c d ∧ Mp a b c d := ⟨hm, hm⟩
  simp only [spec_OrderOf.l0, id_cond]
  rw [spec_BehindOf_ev _ (by omega), if_pos hp, bh_id hm]
  simp only [Option.bind_some]
  rw [if_pos (by decide : (1 : Int) ≤ 6), if_pos trivial, w64 (by omega)]
  by_cases hI : a = 1 ∧ b = 0 ∧ c = 0 ∧ d = 1
  · rw [if_pos hI, if_pos hI]
  · rw [if_neg hI, if_neg hI]
    by_cases h0 : a + d = 0
    · rw [if_pos h0]
      obtain ⟨k, rfl⟩ : ∃ m, k = m + 1 := ⟨k - 1, by omega⟩
      have e : bh a b c d a b c d = (1, 0, 0, 1, true) := by
        unfold bh
        have hd : d = -a := by omega
        have x1 : a * a + b * c = -1 := by rw [hd] at hdet; grind
        have x2 : a * b + b * d = 0 := by rw [hd]; grind
        have x3 : c * a + d * c = 0 := by rw [hd]; grind
        have x4 : c * b + d * d = -1 := by rw [hd] at hdet ⊢; grind
        rw [x1, x2, x3, x4]
        decide
      simp only [spec_OrderOf.l0, id_cond]
      rw [spec_BehindOf_ev _ (by omega), if_pos hp2, e]
      simp
    · rw [if_neg h0]
      by_cases h1 : a + d = 1 ∨ a + d = -1
      · rw [if_pos h1]
        have hc : 0 < c := by
          rcases hs with h | ⟨h, h'⟩
          · exact h
          · exfalso
            subst h
            rw [Int.mul_zero] at hdet
            have had : a * d = 1 := by omega
            have := Int.eq_one_of_mul_eq_one_left (show 0 ≤ d by omega) had
            subst this
            omega
        have hM : Mp (-d) b c (-a) := by
          refine ⟨by unfold Pt at *; omega, pb, pc, by unfold Pt at *; omega, ?_, Or.inl hc⟩
          rw [Int.neg_mul_neg, Int.mul_comm d a]; exact hdet
        have e1 : bh a b c d a b c d = (-d, b, c, -a, true) := by
          have hq : sgn5 (a * a + b * c) (a * b + b * d) (c * a + d * c) (c * b + d * d) = (-d, b, c, -a) := by
            rcases h1 with h1 | h1
            · have hd : a = 1 - d := by omega
              have x1 : a * a + b * c = -d := by rw [hd] at hdet ⊢; grind
              have x2 : a * b + b * d = b := by rw [hd]; grind
              have x3 : c * a + d * c = c := by rw [hd]; grind
              have x4 : c * b + d * d = -a := by rw [hd] at hdet ⊢; grind
              rw [x1, x2, x3, x4]
              unfold sgn5
              rw [if_neg (by omega)]
            · have hd : a = -1 - d := by omega
              have x1 : a * a + b * c = d := by rw [hd] at hdet ⊢; grind
              have x2 : a * b + b * d = -b := by rw [hd]; grind
              have x3 : c * a + d * c = -c := by rw [hd]; grind
              have x4 : c * b + d * d = a := by rw [hd] at hdet ⊢; grind
              rw [x1, x2, x3, x4]
              unfold sgn5
              rw [if_pos (by omega), Int.neg_neg, Int.neg_neg]
          unfold bh
          rw [hq]
          unfold m5
          rw [if_pos hM]
        have e2 : bh (-d) b c (-a) a b c d = (1, 0, 0, 1, true) := by
          unfold bh
          have x1 : a * -d + b * c = -1 := by rw [Int.mul_neg]; omega
          have x2 : a * b + b * -a = 0 := by rw [Int.mul_neg, Int.mul_comm a b]; omega
          have x3 : c * -d + d * c = 0 := by rw [Int.mul_neg, Int.mul_comm c d]; omega
          have x4 : c * b + d * -a = -1 := by rw [Int.mul_neg, Int.mul_comm c b, Int.mul_comm d a]; omega
          rw [x1, x2, x3, x4]
          decide
        have hp3 : Mp (-d) b c (-a) ∧ Mp a b c d := ⟨hM, hm⟩
        obtain ⟨k, rfl⟩ : ∃ m, k = m + 2 := ⟨k - 2, by omega⟩
        simp only [spec_OrderOf.l0, id_cond]
        rw [spec_BehindOf_ev _ (by omega), if_pos hp2, e1]
        simp only [Option.bind_some]
        rw [if_pos (by decide), if_pos trivial, if_neg (by omega), w64 (by omega), if_pos (by decide), spec_BehindOf_ev _ (by omega), if_pos hp3, e2]
        simp
      · rw [if_neg h1]
        exact order_zero hm (by omega) hI 5 k _ 1 0 a b c d (by omega) (by omega) (by omega) hm (by omega) (by omega) (by omega) (by omega) (by decide)
def bk (c : UInt8) : UInt8 := if c = 84 then 116 else if c = 116 then 84 else 82
def backL (l : List UInt8) : List UInt8 := (l.reverse).map bk
theorem u8_eq (c : UInt8) (n : Nat) (hn : n < 256) : ((c.toNat : Int) = (n : Int)) ↔ c = UInt8.ofNat n := by
  constructor
  · intro h
    have : c.toNat = n := by omega
    rw [← UInt8.toNat_inj, this]
    simp
    omega
  · intro h
    rw [h]
    simp
    omega
theorem backL_take (s : List UInt8) (n : Nat) (h : n < s.length) : backL (s.take (n + 1)) = bk s[n] :: backL (s.take n) := by
  unfold backL
  rw [List.take_succ_eq_append_getElem h, List.reverse_append]
  simp
theorem spec_BackOf_l0 (s : ByteArray) (hD : Dn s) (n : Nat) : ∀ (k : Nat) (l : List UInt8), 2 * n + 60 ≤ k → n ≤ s.size → l.length + n ≤ 1000 → spec_BackOf.l0 k s (ofL l) ((n : Int) - 1) = some (ofL (l ++ backL (s.data.toList.take n))) := by
  have hsz : s.data.toList.length = s.size := by simp
  have h40 := hD.2
  induction n with
  | zero =>
    intro k l hk hn hl
    obtain ⟨k, rfl⟩ : ∃ m, k = m + 2 := ⟨k - 2, by omega⟩
    simp only [spec_BackOf.l0, spec_BackOf.j1]
    rw [if_neg (by omega), if_neg (by simp)]
    simp [backL]
  | succ n ih =>
    intro k l hk hn hl
    obtain ⟨k, rfl⟩ : ∃ m, k = m + 2 := ⟨k - 2, by omega⟩
    simp only [spec_BackOf.l0]
    have e : ((n + 1 : Nat) : Int) - 1 = (n : Int) := by omega
    rw [e, if_pos (by omega), spec_DanceOk_ev (k + 1) s (by omega) (by omega), decide_eq_true hD]
    simp only [Option.bind_some, spec_BackOf.j1]
    have hn1 : n < s.data.toList.length := by omega
    have hb := bt_get s (n : Int) (by omega) (by omega)
    have hb' : bt s (n : Int) = (s.data.toList[n].toNat : Int) := hb
    have hs := ofL_size l
    rw [if_pos trivial, if_pos (by omega), if_pos (by omega), hb', w64 (by omega), backL_take _ _ hn1]
    generalize s.data.toList[n] = c
    have q1 := u8_eq c 84 (by omega)
    have q2 := u8_eq c 116 (by omega)
    have a1 : ofL l ++ (⟨#[116]⟩ : ByteArray) = ofL (l ++ [116]) := ofL_app l [116]
    have a2 : ofL l ++ (⟨#[84]⟩ : ByteArray) = ofL (l ++ [84]) := ofL_app l [84]
    have a3 : ofL l ++ (⟨#[82]⟩ : ByteArray) = ofL (l ++ [82]) := ofL_app l [82]
    have q1' : ((c.toNat : Int) = 84) ↔ c = 84 := q1
    have q2' : ((c.toNat : Int) = 116) ↔ c = 116 := q2
    by_cases c1 : (c.toNat : Int) = 84
    · have : bk c = 116 := by unfold bk; rw [if_pos (q1'.1 c1)]
      rw [if_pos c1, if_pos (by omega), a1, ih k _ (by omega) (by omega) (by simp; omega), this]
      simp
    · rw [if_neg c1]
      have m1 : ¬ c = 84 := fun x => c1 (q1'.2 x)
      by_cases c2 : (c.toNat : Int) = 116
      · have : bk c = 84 := by unfold bk; rw [if_neg m1, if_pos (q2'.1 c2)]
        rw [if_pos c2, if_pos (by omega), a2, ih k _ (by omega) (by omega) (by simp; omega), this]
        simp
      · have m2 : ¬ c = 116 := fun x => c2 (q2'.2 x)
        have : bk c = 82 := by unfold bk; rw [if_neg m1, if_neg m2]
        rw [if_neg c2, if_pos (by omega), a3, ih k _ (by omega) (by omega) (by simp; omega), this]
        simp
theorem spec_BackOf_ev (k : Nat) (s : ByteArray) (hk : s.size + 200 ≤ k) (hn : s.size ≤ 1000000000) : spec_BackOf.f k s = some (if Dn s then ofL (backL s.data.toList) else ofL []) := by
  unfold spec_BackOf.f
  have e0 : (⟨#[]⟩ : ByteArray) = ofL [] := rfl
  have hsz : s.data.toList.length = s.size := by simp
  rw [e0, w64 (by omega)]
  by_cases h : Dn s
  · rw [if_pos h, spec_BackOf_l0 s h s.size k [] (by have := h.2; omega) (by omega) (by have := h.2; simp; omega), List.take_of_length_le (by omega)]
    simp
  · rw [if_neg h]
    obtain ⟨k, rfl⟩ : ∃ m, k = m + 2 := ⟨k - 2, by omega⟩
    simp only [spec_BackOf.l0]
    by_cases h0 : (s.size : Int) - 1 ≥ 0
    · rw [if_pos h0, spec_DanceOk_ev (k + 1) s (by omega) (by omega), decide_eq_false h]
      simp only [Option.bind_some, spec_BackOf.j1]
      rw [if_neg (by simp)]
    · rw [if_neg h0]
      simp only [spec_BackOf.j1]
      rw [if_neg (by simp)]
theorem backL_len (l : List UInt8) : (backL l).length = l.length := by simp [backL]
theorem draw_order (k : Nat) (hk : 1000500 ≤ k) (l : List Int) (hw : ∀ x ∈ l, (Lit.int .u8 x).wf = true) : ∃ a b c d, spec_DrawOrderOf.f k l = some (a, b, c, d) := by
  obtain ⟨m, e1, hm⟩ := open_ev l hw
  unfold spec_DrawOrderOf.f
  rw [e1]
  simp only [Option.bind_some]
  obtain ⟨s, p1, e2, h1, h2, h3⟩ := dance_ev k m hm 0 5 0 (by omega) (by omega) (by omega) (by omega)
  rw [e2]
  simp only [Option.bind_some]
  obtain ⟨r, e3, h4, h5, _⟩ := pick_ev k (by omega) m hm p1 4 (by omega) (by omega)
  rw [e3]
  simp only [Option.bind_some]
  have h6 := h5 (by omega)
  have hz := rdOf_sz [(⟨#[82]⟩ : ByteArray), (⟨#[84, 82]⟩ : ByteArray), (⟨#[82, 84]⟩ : ByteArray), (⟨#[]⟩ : ByteArray)] (by decide) r
  rw [if_pos h4, if_pos (by simp only [List.length_cons, List.length_nil]; omega), if_pos (by omega), spec_BackOf_ev k s (by omega) (by omega)]
  simp only [Option.bind_some]
  have ht : (if Dn s then ofL (backL s.data.toList) else ofL []).size ≤ s.size := by
    split
    · rw [ofL_size, backL_len]; simp
    · rw [ofL_size]; simp
  generalize (if Dn s then ofL (backL s.data.toList) else ofL []) = t at ht ⊢
  rw [if_pos (by rw [ByteArray.size_append]; omega)]
  obtain ⟨a, b, c, d, ok, e4, _⟩ := spec_MapOf_some k (s ++ rdOf ByteArray.empty [(⟨#[82]⟩ : ByteArray), (⟨#[84, 82]⟩ : ByteArray), (⟨#[82, 84]⟩ : ByteArray), (⟨#[]⟩ : ByteArray)] r ++ t) (by rw [ByteArray.size_append, ByteArray.size_append]; omega) (by rw [ByteArray.size_append, ByteArray.size_append]; omega)
  rw [e4]
  simp only [Option.bind_some]
  split
  · obtain ⟨r2, e5, _⟩ := pick_ev k (by omega) m hm (p1 + 1) 3 (by omega) (by omega)
    rw [e5]
    simp only [Option.bind_some]
    split
    · exact ⟨_, _, _, _, rfl⟩
    · obtain ⟨a', b', c', d', p', e6, _⟩ := map_ev k (by omega) m hm (p1 + 1 + 1) 9 (by omega) (by omega)
      rw [e6]
      exact ⟨_, _, _, _, rfl⟩
  · obtain ⟨a', b', c', d', p', e6, _⟩ := map_ev k (by omega) m hm (p1 + 1) 9 (by omega) (by omega)
    rw [e6]
    exact ⟨_, _, _, _, rfl⟩
theorem order_none (k : Nat) (hk : 2 ≤ k) {a b c d : Int} (h : ¬ Mp a b c d) : spec_OrderOf.f k a b c d = some 0 := by
  obtain ⟨k, rfl⟩ : ∃ m, k = m + 1 := ⟨k - 1, by omega⟩
  have h' : ¬ (Mp 1 0 0 1 ∧ Mp a b c d) := fun x => h x.2
  unfold spec_OrderOf.f
  simp only [spec_OrderOf.l0]
  rw [spec_BehindOf_ev _ (by omega), if_neg h']
  simp
theorem FnOrderOf : laws_FnOrderOf.Pure := by
  intro l _ _ hw
  refine ⟨1000510, ?_⟩
  unfold laws_FnOrderOf.f
  by_cases hn : (l.length : Int) > 1048576
  · rw [if_pos hn]
  · rw [if_neg hn]
    obtain ⟨a, b, c, d, e3⟩ := draw_order 1000510 (by omega) l hw
    have hR : impl_OrderOf.f 1000510 0 (-1) 1 0 = some 2 := by
      rw [order_ev _ (by omega), order_val _ (by omega) (by decide)]
      decide
    rw [e3]
    simp only [Option.bind_some]
    rw [order_ev _ (by omega), spec_MapOk_ev, alive_ev _ (by omega), hR]
    simp only [Option.bind_some, decide_eq_true_eq]
    by_cases h : Mp a b c d
    · obtain ⟨pa, pb, pc, pd, hdet, hs⟩ := id h
      have hw1 : wrap64 (a + d) = a + d := by unfold Pt at pa pd; exact w64 (by omega)
      rw [order_val _ (by omega) h, hw1]
      simp only [Option.bind_some]
      rw [if_pos trivial, if_pos h]
      have hi : ((a == 1 && (b == 0 && (c == 0 && (d == 1)))) = true) ↔ (a = 1 ∧ b = 0 ∧ c = 0 ∧ d = 1) := id_cond a b c d
      by_cases hI : a = 1 ∧ b = 0 ∧ c = 0 ∧ d = 1
      · obtain ⟨rfl, rfl, rfl, rfl⟩ := hI
        decide
      · have hi' : (a == 1 && (b == 0 && (c == 0 && (d == 1)))) = false := by
          rw [← Bool.not_eq_true, hi]; exact hI
        rw [if_neg hI, hi']
        by_cases h0 : a + d = 0
        · rw [if_pos h0, h0]; decide
        · rw [if_neg h0]
          have h0' : (a + d == 0) = false := by simpa using h0
          rw [h0']
          by_cases h1 : a + d = 1
          · rw [if_pos (Or.inl h1), if_pos h1]; decide
          · rw [if_neg h1]
            by_cases h2 : a + d = -1
            · rw [if_pos (Or.inr h2), h2]; decide
            · have h2' : (a + d == -1) = false := by simpa using h2
              rw [if_neg (by omega : ¬(a + d = 1 ∨ a + d = -1)), h2']; decide
    · have : spec_OrderOf.f 1000510 a b c d = some 0 := order_none _ (by omega) h
      rw [this]
      simp only [Option.bind_some]
      rw [if_pos trivial, if_neg h]
      rfl
end Go.Proofs.Ytmckeejjddablaa.Pure
