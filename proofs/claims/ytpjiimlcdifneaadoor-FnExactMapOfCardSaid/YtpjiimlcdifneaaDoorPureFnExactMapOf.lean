/- What the walked law FnExactMapOf computes, answers true. -/
import Derived.Test.YtpjiimlcdifneaaDoorPFnExactMapOfx4
import Derived.OpenShut
namespace Go.Proofs.YtpjiimlcdifneaaDoor.Pure
open Go.RowKit Go.Proofs.YtpjiimlcdifneaaDoor.PFnExactMapOf Go.Proofs.YtpjiimlcdifneaaDoorW.PrintWords Go.Proofs.YtpjiimlcdifneaaDoorW.PrintLast Go.Proofs.YtpjiimlcdifneaaDoorW.PrintMore
set_option linter.unusedVariables false
set_option linter.unusedSimpArgs false
theorem st {P : Prop} [Decidable P] (h : P) : some true = some (decide P) := by simp [h]
theorem sf {P : Prop} [Decidable P] (h : ¬P) : some false = some (decide P) := by simp [h]
theorem sd {P Q : Prop} [Decidable P] [Decidable Q] (h : P ↔ Q) : some (decide P) = some (decide Q) := by simp [h]
theorem w64 {n : Int} (h : -9223372036854775808 ≤ n ∧ n ≤ 9223372036854775807) : wrap64 n = n := by unfold wrap64; omega
def Pt (n : Int) : Prop := -1000000 ≤ n ∧ n ≤ 1000000
instance (n : Int) : Decidable (Pt n) := by unfold Pt; exact inferInstance
theorem mulb {a b : Int} (ha : Pt a) (hb : Pt b) : -1000000000000 ≤ a * b ∧ a * b ≤ 1000000000000 := by
  unfold Pt at ha hb
  have h1 : a.natAbs ≤ 1000000 := by omega
  have h2 : b.natAbs ≤ 1000000 := by omega
  have := Nat.mul_le_mul h1 h2
  rw [← Int.natAbs_mul] at this
  omega
theorem wmul {a b : Int} (ha : Pt a) (hb : Pt b) : wrap64 (a * b) = a * b := by
  have := mulb ha hb
  exact w64 (by omega)
theorem wtwo {x y z w : Int} (hx : Pt x) (hy : Pt y) (hz : Pt z) (hw : Pt w) : wrap64 (wrap64 (x * y) + wrap64 (z * w)) = x * y + z * w := by
  have h1 := mulb hx hy
  have h2 := mulb hz hw
  rw [wmul hx hy, wmul hz hw]
  exact w64 (by omega)
def Bg (n : Int) : Prop := -2000000000000 ≤ n ∧ n ≤ 2000000000000
theorem two_bg {x y z w : Int} (hx : Pt x) (hy : Pt y) (hz : Pt z) (hw : Pt w) : Bg (x * y + z * w) := by
  have h1 := mulb hx hy
  have h2 := mulb hz hw
  unfold Bg; omega
theorem bg_neg {n : Int} (h : Bg n) : wrap64 (-n) = -n := by unfold Bg at h; exact w64 (by omega)
theorem bt_get (s : ByteArray) (i : Int) (h0 : 0 ≤ i) (h : i.toNat < s.size) : bt s i = (s.data.toList[i.toNat]'(by simpa using h)).toNat := by
  unfold bt
  rw [dif_pos h]
  rfl
def mv (c : UInt8) : Bool := c == 84 || c == 116 || c == 82
def dok (l : List UInt8) : Bool := l.all mv
theorem mv_iff (c : UInt8) : mv c = true ↔ ((c.toNat : Int) = 84 ∨ (c.toNat : Int) = 116 ∨ (c.toNat : Int) = 82) := by
  unfold mv
  simp only [Bool.or_eq_true, beq_iff_eq]
  have e1 : (84 : UInt8).toNat = 84 := rfl
  have e2 : (116 : UInt8).toNat = 116 := rfl
  have e3 : (82 : UInt8).toNat = 82 := rfl
  rw [← UInt8.toNat_inj, ← UInt8.toNat_inj, ← UInt8.toNat_inj, e1, e2, e3]
  omega
def Dn (s : ByteArray) : Prop := dok s.data.toList = true ∧ s.size ≤ 40
instance (s : ByteArray) : Decidable (Dn s) := by unfold Dn; exact inferInstance
theorem u8_eq (c : UInt8) (n : Nat) (hn : n < 256) : ((c.toNat : Int) = (n : Int)) ↔ c = UInt8.ofNat n := by
  constructor
  · intro h
    have : c.toNat = n := by omega
    rw [← UInt8.toNat_inj, this]
    simp
    omega
  · intro h
    rw [h]
    simp
    omega
theorem impl_isPart_ev (n : Int) : impl_isPart.f n = some (decide (Pt n)) := by
  unfold impl_isPart.f Pt
  split
  · exact sd (by omega)
  · exact sf (by omega)
theorem spec_l1In_ev (n a b : Int) : spec_l1In.f n a b = some (decide (a ≤ n ∧ n ≤ b)) := by
  unfold spec_l1In.f
  split
  · exact sd (by omega)
  · exact sf (by omega)
def Mp (a b c d : Int) : Prop := Pt a ∧ Pt b ∧ Pt c ∧ Pt d ∧ a * d - b * c = 1 ∧ (0 < c ∨ c = 0 ∧ 0 < d)
instance (a b c d : Int) : Decidable (Mp a b c d) := by unfold Mp; exact inferInstance
theorem wdet {a b c d : Int} (ha : Pt a) (hb : Pt b) (hc : Pt c) (hd : Pt d) : wrap64 (wrap64 (a * d) - wrap64 (b * c)) = a * d - b * c := by
  have h1 := mulb ha hd
  have h2 := mulb hb hc
  rw [wmul ha hd, wmul hb hc]
  exact w64 (by omega)
theorem spec_MapOk_ev (a b c d : Int) : spec_MapOk.f a b c d = some (decide (Mp a b c d)) := by
  have pt : ∀ n : Int, (-1000000 ≤ n ∧ n ≤ 1000000) ↔ Pt n := fun n => Iff.rfl
  unfold spec_MapOk.f
  simp only [spec_l1In_ev, Option.bind_some, decide_eq_true_eq, pt]
  by_cases ha : Pt a
  · rw [if_pos ha]
    by_cases hb : Pt b
    · rw [if_pos hb]
      by_cases hc : 0 ≤ c ∧ c ≤ 1000000
      · rw [if_pos hc]
        have hc' : Pt c := by unfold Pt; omega
        by_cases hd : Pt d
        · rw [if_pos hd, wdet ha hb hc' hd]
          by_cases h : a * d - b * c = 1
          · rw [if_pos h]
            by_cases h3 : c > 0
            · rw [if_pos h3]; exact st ⟨ha, hb, hc', hd, h, Or.inl h3⟩
            · rw [if_neg h3]; exact sd ⟨fun x => ⟨ha, hb, hc', hd, h, Or.inr ⟨by omega, x⟩⟩, fun x => by have := x.2.2.2.2.2; omega⟩
          · rw [if_neg h]; exact sf (fun x => h x.2.2.2.2.1)
        · rw [if_neg hd]; exact sf (fun x => hd x.2.2.2.1)
      · rw [if_neg hc]; exact sf (fun x => hc (by have h1 := x.2.2.1; have h2 := x.2.2.2.2.2; unfold Pt at h1; omega))
    · rw [if_neg hb]; exact sf (fun x => hb x.2.1)
  · rw [if_neg ha]; exact sf (fun x => ha x.1)
theorem impl_isMap_ev (a b c d : Int) : impl_isMap.f a b c d = some (decide (Mp a b c d)) := by
  unfold impl_isMap.f
  simp only [impl_isPart_ev, Option.bind_some, decide_eq_true_eq]
  by_cases ha : Pt a
  · rw [if_pos ha]
    by_cases hb : Pt b
    · rw [if_pos hb]
      by_cases hc : Pt c
      · rw [if_pos hc]
        by_cases hd : Pt d
        · rw [if_pos hd, wdet ha hb hc hd]
          by_cases h : a * d - b * c = 1
          · rw [if_pos h]
            by_cases h3 : c > 0
            · rw [if_pos h3]; exact st ⟨ha, hb, hc, hd, h, Or.inl h3⟩
            · rw [if_neg h3]
              by_cases h4 : c = 0
              · rw [if_pos h4]; exact sd ⟨fun x => ⟨ha, hb, hc, hd, h, Or.inr ⟨h4, x⟩⟩, fun x => by have := x.2.2.2.2.2; omega⟩
              · rw [if_neg h4]; exact sf (fun x => by have := x.2.2.2.2.2; omega)
          · rw [if_neg h]; exact sf (fun x => h x.2.2.2.2.1)
        · rw [if_neg hd]; exact sf (fun x => hd x.2.2.2.1)
      · rw [if_neg hc]; exact sf (fun x => hc x.2.2.1)
    · rw [if_neg hb]; exact sf (fun x => hb x.2.1)
  · rw [if_neg ha]; exact sf (fun x => ha x.1)
def sgn5 (a b c d : Int) : Int × Int × Int × Int := if c < 0 ∨ (c = 0 ∧ d < 0) then (-a, -b, -c, -d) else (a, b, c, d)
def m5 (m : Int × Int × Int × Int) : Int × Int × Int × Int × Bool := if Mp m.1 m.2.1 m.2.2.1 m.2.2.2 then (m.1, m.2.1, m.2.2.1, m.2.2.2, true) else (0, 0, 0, 0, false)
def bh (a b c d a' b' c' d' : Int) : Int × Int × Int × Int × Bool := m5 (sgn5 (a' * a + b' * c) (a' * b + b' * d) (c' * a + d' * c) (c' * b + d' * d))
theorem spec_l5Signed_ev (a b c d : Int) (ha : Bg a) (hb : Bg b) (hc : Bg c) (hd : Bg d) : spec_l5Signed.f a b c d = some (sgn5 a b c d) := by
  unfold spec_l5Signed.f sgn5
  rw [bg_neg ha, bg_neg hb, bg_neg hc, bg_neg hd]
  by_cases h1 : c < 0
  · rw [if_pos h1, if_pos (Or.inl h1)]
  · rw [if_neg h1]
    by_cases h2 : c = 0
    · rw [if_pos h2]
      by_cases h3 : d < 0
      · rw [if_pos h3, if_pos (Or.inr ⟨h2, h3⟩)]
      · rw [if_neg h3, if_neg (by omega)]
    · rw [if_neg h2, if_neg (by omega)]
theorem spec_BehindOf_ev (k : Nat) (hk : 1 ≤ k) (a b c d a' b' c' d' : Int) : spec_BehindOf.f k a b c d a' b' c' d' = some (if Mp a b c d ∧ Mp a' b' c' d' then bh a b c d a' b' c' d' else (0, 0, 0, 0, false)) := by
  obtain ⟨k, rfl⟩ : ∃ m, k = m + 1 := ⟨k - 1, by omega⟩
  unfold spec_BehindOf.f
  simp only [spec_MapOk_ev, Option.bind_some, decide_eq_true_eq]
  by_cases h1 : Mp a b c d
  · rw [if_pos h1]
    by_cases h2 : Mp a' b' c' d'
    · have hp : Mp a b c d ∧ Mp a' b' c' d' := ⟨h1, h2⟩
      rw [if_pos hp]
      obtain ⟨pa, pb, pc, pd, _⟩ := h1
      obtain ⟨pa', pb', pc', pd', _⟩ := id h2
      have : (!decide (Mp a' b' c' d')) = false := by simpa using h2
      rw [this]
      simp only [spec_BehindOf.j0]
      rw [if_neg (by simp), wtwo pa' pa pb' pc, wtwo pa' pb pb' pd, wtwo pc' pa pd' pc, wtwo pc' pb pd' pd]
      rw [spec_l5Signed_ev _ _ _ _ (two_bg pa' pa pb' pc) (two_bg pa' pb pb' pd) (two_bg pc' pa pd' pc) (two_bg pc' pb pd' pd)]
      simp only [spec_MapOk_ev, Option.bind_some, decide_eq_true_eq]
      unfold bh m5
      split <;> rfl
    · have : (!decide (Mp a' b' c' d')) = true := by simpa using h2
      rw [this, if_neg (fun x => h2 x.2)]
      simp only [spec_BehindOf.j0]
      rw [if_pos trivial]
  · rw [if_neg h1, if_neg (fun x => h1 x.1)]
    simp only [spec_BehindOf.j0]
    rw [if_pos trivial]
theorem bh_or (a b c d a' b' c' d' : Int) : (∃ A B C D, bh a b c d a' b' c' d' = (A, B, C, D, true) ∧ Mp A B C D) ∨ bh a b c d a' b' c' d' = (0, 0, 0, 0, false) := by
  unfold bh m5
  split
  · exact Or.inl ⟨_, _, _, _, rfl, by assumption⟩
  · exact Or.inr rfl
theorem impl_behind_j0 (k : Nat) (x : Bool) (a b c d : Int) (ha : Bg a) (hb : Bg b) (hc : Bg c) (hd : Bg d) (hx : x = decide (c < 0 ∨ (c = 0 ∧ d < 0))) : impl_behind.j0 (k + 1) x a b c d = some (m5 (sgn5 a b c d)) := by
  simp only [impl_behind.j0]
  rw [bg_neg ha, bg_neg hb, bg_neg hc, bg_neg hd]
  simp only [impl_isMap_ev, Option.bind_some, decide_eq_true_eq]
  subst hx
  simp only [decide_eq_true_eq]
  unfold m5 sgn5
  by_cases h : c < 0 ∨ (c = 0 ∧ d < 0)
  · rw [if_pos h, if_pos h]
    split <;> rfl
  · rw [if_neg h, if_neg h]
    split <;> rfl
theorem impl_behind_ev (k : Nat) (hk : 1 ≤ k) (a b c d a' b' c' d' : Int) (h1 : Mp a b c d) (h2 : Mp a' b' c' d') : impl_behind.f k a b c d a' b' c' d' = some (bh a b c d a' b' c' d') := by
  obtain ⟨k, rfl⟩ : ∃ m, k = m + 1 := ⟨k - 1, by omega⟩
  obtain ⟨pa, pb, pc, pd, _⟩ := h1
  obtain ⟨pa', pb', pc', pd', _⟩ := h2
  unfold impl_behind.f bh
  rw [wtwo pa' pa pb' pc, wtwo pa' pb pb' pd, wtwo pc' pa pd' pc, wtwo pc' pb pd' pd]
  have j := fun x hx => impl_behind_j0 k x _ _ _ _ (two_bg pa' pa pb' pc) (two_bg pa' pb pb' pd) (two_bg pc' pa pd' pc) (two_bg pc' pb pd' pd) hx
  generalize c' * a + d' * c = m at *
  generalize c' * b + d' * d = n at *
  by_cases h3 : m < 0
  · rw [if_pos h3]; exact j true (by simp [h3])
  · rw [if_neg h3]
    by_cases h4 : m = 0
    · rw [if_pos h4]; exact j _ (by rw [decide_eq_decide]; omega)
    · rw [if_neg h4]; exact j false (by symm; rw [decide_eq_false_iff_not]; omega)
theorem laws_eqMap_same (a b c d : Int) : laws_eqMap.f a b c d a b c d = some true := by
  unfold laws_eqMap.f
  rw [if_pos rfl, if_pos rfl, if_pos rfl, if_pos rfl]
theorem spec_DanceOk_l0 (s : ByteArray) (hn : s.size ≤ 1000000000) (d : Nat) : ∀ (k : Nat) (i : Int), 0 ≤ i → i + d = s.size → d < k → spec_DanceOk.l0 k s i = some (decide (dok (s.data.toList.drop i.toNat) = true ∧ s.size ≤ 40)) := by
  have hsz : s.data.toList.length = s.size := by simp
  induction d with
  | zero =>
    intro k i h0 hd hk
    obtain ⟨k, rfl⟩ : ∃ m, k = m + 1 := ⟨k - 1, by omega⟩
    simp only [spec_DanceOk.l0]
    rw [if_neg (by omega), List.drop_eq_nil_of_le (by omega)]
    exact sd ⟨fun x => ⟨rfl, by omega⟩, fun x => by omega⟩
  | succ d ih =>
    intro k i h0 hd hk
    obtain ⟨k, rfl⟩ : ∃ m, k = m + 1 := ⟨k - 1, by omega⟩
    simp only [spec_DanceOk.l0]
    have h1 : i.toNat < s.size := by omega
    have h2 : i.toNat < s.data.toList.length := by omega
    rw [if_pos (by omega), if_pos h0, w64 (by omega), ih k (i + 1) (by omega) (by omega) (by omega)]
    have e : (i + 1).toNat = i.toNat + 1 := by omega
    rw [e, bt_get s i h0 h1, List.drop_eq_getElem_cons h2]
    generalize s.data.toList[i.toNat] = c
    have hm := mv_iff c
    have hc : dok (c :: List.drop (i.toNat + 1) s.data.toList) = (mv c && dok (List.drop (i.toNat + 1) s.data.toList)) := rfl
    rw [hc]
    by_cases c1 : (c.toNat : Int) = 84
    · rw [if_pos c1]; have : mv c = true := hm.2 (Or.inl c1); rw [this, Bool.true_and]
    · rw [if_neg c1]
      by_cases c2 : (c.toNat : Int) = 116
      · rw [if_pos c2]; have : mv c = true := hm.2 (Or.inr (Or.inl c2)); rw [this, Bool.true_and]
      · rw [if_neg c2]
        by_cases c3 : (c.toNat : Int) = 82
        · rw [if_pos c3]; have : mv c = true := hm.2 (Or.inr (Or.inr c3)); rw [this, Bool.true_and]
        · rw [if_neg c3]
          have : mv c = false := by
            rcases Bool.eq_false_or_eq_true (mv c) with h | h
            · have := hm.1 h; omega
            · exact h
          rw [this, Bool.false_and]
          exact sf (by simp)
theorem spec_DanceOk_ev (k : Nat) (s : ByteArray) (hk : s.size < k) (hn : s.size ≤ 1000000000) : spec_DanceOk.f k s = some (decide (Dn s)) := by
  unfold spec_DanceOk.f
  rw [spec_DanceOk_l0 s hn s.size k 0 (by omega) (by omega) hk]
  rfl
theorem impl_areMoves_ev (s : ByteArray) (hn : s.size ≤ 1000000000) : impl_areMoves.f s = some (dok s.data.toList) := by
  unfold impl_areMoves.f; rw [if_pos (by omega)]; rfl
theorem impl_isDance_ev (s : ByteArray) : impl_isDance.f s = some (decide (Dn s)) := by
  unfold impl_isDance.f
  by_cases h : (s.size : Int) ≤ 40
  · rw [if_pos h, impl_areMoves_ev s (by omega)]
    show some (dok s.data.toList) = _
    congr 1
    by_cases hd : dok s.data.toList = true
    · rw [hd, decide_eq_true (show Dn s from ⟨hd, by omega⟩)]
    · rw [decide_eq_false (show ¬ Dn s from fun x => hd x.1)]; simpa using hd
  · rw [if_neg h, decide_eq_false (fun x => h (by have := x.2; omega))]
def mvM (c : UInt8) : Int × Int × Int × Int := if c = 84 then (1, 1, 0, 1) else if c = 116 then (1, -1, 0, 1) else (0, -1, 1, 0)
theorem mvM_mp (c : UInt8) : Mp (mvM c).1 (mvM c).2.1 (mvM c).2.2.1 (mvM c).2.2.2 := by
  unfold mvM
  split
  · show Mp 1 1 0 1; decide
  · split
    · show Mp 1 (-1) 0 1; decide
    · show Mp 0 (-1) 1 0; decide
def mapL : (Int × Int × Int × Int) → List UInt8 → Int × Int × Int × Int × Bool
  | m, [] => (m.1, m.2.1, m.2.2.1, m.2.2.2, true)
  | m, c :: l => if (bh m.1 m.2.1 m.2.2.1 m.2.2.2 (mvM c).1 (mvM c).2.1 (mvM c).2.2.1 (mvM c).2.2.2).2.2.2.2 = true then mapL ((bh m.1 m.2.1 m.2.2.1 m.2.2.2 (mvM c).1 (mvM c).2.1 (mvM c).2.2.1 (mvM c).2.2.2).1, (bh m.1 m.2.1 m.2.2.1 m.2.2.2 (mvM c).1 (mvM c).2.1 (mvM c).2.2.1 (mvM c).2.2.2).2.1, (bh m.1 m.2.1 m.2.2.1 m.2.2.2 (mvM c).1 (mvM c).2.1 (mvM c).2.2.1 (mvM c).2.2.2).2.2.1, (bh m.1 m.2.1 m.2.2.1 m.2.2.2 (mvM c).1 (mvM c).2.1 (mvM c).2.2.1 (mvM c).2.2.2).2.2.2.1) l else (0, 0, 0, 0, false)
theorem bh_mp {a b c d a' b' c' d' : Int} (h : (bh a b c d a' b' c' d').2.2.2.2 = true) : Mp (bh a b c d a' b' c' d').1 (bh a b c d a' b' c' d').2.1 (bh a b c d a' b' c' d').2.2.1 (bh a b c d a' b' c' d').2.2.2.1 := by
  rcases bh_or a b c d a' b' c' d' with ⟨A, B, C, D, e, hm⟩ | e
  · rw [e]; exact hm
  · rw [e] at h; cases h
theorem spec_l5Move_ev (c : UInt8) : spec_l5Move.f (c.toNat : Int) = some (mvM c) := by
  unfold spec_l5Move.f mvM
  have q1' : ((c.toNat : Int) = 84) ↔ c = 84 := u8_eq c 84 (by omega)
  have q2' : ((c.toNat : Int) = 116) ↔ c = 116 := u8_eq c 116 (by omega)
  by_cases c1 : c = 84
  · rw [if_pos (q1'.2 c1), if_pos c1]
  · rw [if_neg (fun x => c1 (q1'.1 x)), if_neg c1]
    by_cases c2 : c = 116
    · rw [if_pos (q2'.2 c2), if_pos c2]
    · rw [if_neg (fun x => c2 (q2'.1 x)), if_neg c2]
theorem spec_MapOf_l0 (s : ByteArray) (h40 : s.size ≤ 40) (d : Nat) : ∀ (k : Nat) (i : Nat) (m : Int × Int × Int × Int), d + 2 ≤ k → i + d = s.size → Mp m.1 m.2.1 m.2.2.1 m.2.2.2 → spec_MapOf.l0 k s (i : Int) m.1 m.2.1 m.2.2.1 m.2.2.2 = some (mapL m (s.data.toList.drop i)) := by
  have hsz : s.data.toList.length = s.size := by simp
  induction d with
  | zero =>
    intro k i m hk hd hm
    obtain ⟨k, rfl⟩ : ∃ m, k = m + 1 := ⟨k - 1, by omega⟩
    simp only [spec_MapOf.l0]
    rw [if_neg (by omega), List.drop_eq_nil_of_le (by omega)]; rfl
  | succ d ih =>
    intro k i m hk hd hm
    obtain ⟨k, rfl⟩ : ∃ m, k = m + 1 := ⟨k - 1, by omega⟩
    have hi : i < s.data.toList.length := by omega
    have hb' : bt s (i : Int) = (s.data.toList[i].toNat : Int) := bt_get s (i : Int) (by omega) (by omega)
    have e1 : ((i : Int) + 1) = ((i + 1 : Nat) : Int) := by omega
    simp only [spec_MapOf.l0]
    rw [if_pos (by omega), if_pos (by omega), w64 (by omega), hb', e1, List.drop_eq_getElem_cons hi, spec_l5Move_ev]
    generalize s.data.toList[i] = c
    simp only [Option.bind_some]
    have hp := mvM_mp c
    rw [spec_BehindOf_ev k (by omega), if_pos ⟨hm, hp⟩]
    simp only [Option.bind_some, mapL]
    split
    · rename_i h
      exact ih k (i + 1) (_, _, _, _) (by omega) (by omega) (bh_mp h)
    · rfl
theorem spec_MapOf_ev (k : Nat) (s : ByteArray) (hk : s.size + 100 ≤ k) (hn : s.size ≤ 1000000000) : spec_MapOf.f k s = some (if Dn s then mapL (1, 0, 0, 1) s.data.toList else (0, 0, 0, 0, false)) := by
  unfold spec_MapOf.f
  rw [spec_DanceOk_ev k s (by omega) hn]
  simp only [Option.bind_some, decide_eq_true_eq]
  by_cases h : Dn s
  · rw [if_pos h, if_pos h]
    exact spec_MapOf_l0 s h.2 s.size k 0 (1, 0, 0, 1) (by omega) (by omega) (by decide)
  · rw [if_neg h, if_neg h]
theorem impl_mapOf_l0 (s : ByteArray) (h40 : s.size ≤ 2000) (d : Nat) : ∀ (k : Nat) (i : Nat) (m : Int × Int × Int × Int), d + 2 ≤ k → i + d = s.size → Mp m.1 m.2.1 m.2.2.1 m.2.2.2 → impl_mapOf.l0 k s (s.size : Int) (i : Int) m.1 m.2.1 m.2.2.1 m.2.2.2 = some (mapL m (s.data.toList.drop i)) := by
  have hsz : s.data.toList.length = s.size := by simp
  induction d with
  | zero =>
    intro k i m hk hd hm
    obtain ⟨k, rfl⟩ : ∃ m, k = m + 1 := ⟨k - 1, by omega⟩
    simp only [impl_mapOf.l0]
    rw [if_neg (by omega), List.drop_eq_nil_of_le (by omega)]; rfl
  | succ d ih =>
    intro k i m hk hd hm
    obtain ⟨k, rfl⟩ : ∃ m, k = m + 1 := ⟨k - 1, by omega⟩
    have hi : i < s.data.toList.length := by omega
    have hb' : bt s (i : Int) = (s.data.toList[i].toNat : Int) := bt_get s (i : Int) (by omega) (by omega)
    have e1 : ((i : Int) + 1) = ((i + 1 : Nat) : Int) := by omega
    simp only [impl_mapOf.l0]
    rw [if_pos (by omega), if_pos (by omega), if_pos (by omega), w64 (by omega), hb', e1, List.drop_eq_getElem_cons hi]
    generalize s.data.toList[i] = c
    have hp := mvM_mp c
    have st : ∀ A B C D : Int, mvM c = (A, B, C, D) → ((impl_behind.f k m.1 m.2.1 m.2.2.1 m.2.2.2 A B C D).bind fun x => (if x.2.2.2.2 = true then (impl_mapOf.l0 k s (s.size : Int) ((i + 1 : Nat) : Int) x.1 x.2.1 x.2.2.1 x.2.2.2.1) else (some (0, 0, 0, 0, false)))) = some (mapL m (c :: List.drop (i + 1) s.data.toList)) := by
      intro A B C D e
      simp only [mapL]
      rw [e] at hp ⊢
      rw [impl_behind_ev k (by omega) _ _ _ _ _ _ _ _ hm hp]
      simp only [Option.bind_some]
      split
      · rename_i h
        exact ih k (i + 1) (_, _, _, _) (by omega) (by omega) (bh_mp h)
      · rfl
    have q1' : ((c.toNat : Int) = 84) ↔ c = 84 := u8_eq c 84 (by omega)
    have q2' : ((c.toNat : Int) = 116) ↔ c = 116 := u8_eq c 116 (by omega)
    by_cases c1 : c = 84
    · rw [if_pos (q1'.2 c1)]; exact st _ _ _ _ (by unfold mvM; rw [if_pos c1])
    · rw [if_neg (fun x => c1 (q1'.1 x))]
      by_cases c2 : c = 116
      · rw [if_pos (q2'.2 c2)]; exact st _ _ _ _ (by unfold mvM; rw [if_neg c1, if_pos c2])
      · rw [if_neg (fun x => c2 (q2'.1 x))]; exact st _ _ _ _ (by unfold mvM; rw [if_neg c1, if_neg c2])
theorem impl_MapOf_ev (k : Nat) (s : ByteArray) (hk : 100 ≤ k) : impl_MapOf.f k s = some (if Dn s then mapL (1, 0, 0, 1) s.data.toList else (0, 0, 0, 0, false)) := by
  unfold impl_MapOf.f impl_mapOf.f
  rw [impl_isDance_ev]
  simp only [Option.bind_some, decide_eq_true_eq]
  by_cases h : Dn s
  · have := h.2
    have e := impl_mapOf_l0 s (by omega) s.size k 0 (1, 0, 0, 1) (by omega) (by omega) (by decide)
    have e' : impl_mapOf.l0 k s (s.size : Int) 0 1 0 0 1 = some (mapL (1, 0, 0, 1) s.data.toList) := e
    rw [if_pos h, if_pos h, e']; rfl
  · rw [if_neg h, if_neg h]
theorem FnExactMapOf (a : ByteArray) : ∃ k, laws_FnExactMapOf.f k a = some true := by
  refine ⟨3000000, ?_⟩
  unfold laws_FnExactMapOf.f
  by_cases h : (a.size : Int) > 1048576
  · rw [if_pos h]
  · rw [if_neg h, spec_MapOf_ev _ a (by omega) (by omega), impl_MapOf_ev _ a (by omega)]
    simp only [Option.bind_some, laws_eqMap_same]
    simp
end Go.Proofs.YtpjiimlcdifneaaDoor.Pure
