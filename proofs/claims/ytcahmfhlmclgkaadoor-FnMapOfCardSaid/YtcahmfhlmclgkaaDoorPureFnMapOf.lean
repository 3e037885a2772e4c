/- What the walked law FnMapOf computes, answers true. -/
import Derived.Test.YtcahmfhlmclgkaaDoorCFnMapOf
import Derived.OpenShut
namespace Go.Proofs.YtcahmfhlmclgkaaDoor.Pure
open Go.RowKit Go.Proofs.YtcahmfhlmclgkaaDoor.PFnMapOf Go.Proofs.YtcahmfhlmclgkaaDoorW.PrintWords Go.Proofs.YtcahmfhlmclgkaaDoorW.PrintLast Go.Proofs.YtcahmfhlmclgkaaDoorW.PrintMore
set_option linter.unusedVariables false
set_option linter.unusedSimpArgs false
theorem st {P : Prop} [Decidable P] (h : P) : some true = some (decide P) := by simp [h]
theorem sf {P : Prop} [Decidable P] (h : ¬P) : some false = some (decide P) := by simp [h]
theorem sd {P Q : Prop} [Decidable P] [Decidable Q] (h : P ↔ Q) : some (decide P) = some (decide Q) := by simp [h]
theorem w64 {n : Int} (h : -9223372036854775808 ≤ n ∧ n ≤ 9223372036854775807) : wrap64 n = n := by unfold wrap64; omega
def Fr (u d : Int) : Prop := -1000000 ≤ u ∧ u ≤ 1000000 ∧ 0 ≤ d ∧ d ≤ 1000000 ∧ (d = 0 → u = 1) ∧ (Int.gcd u d = 1)
instance (u d : Int) : Decidable (Fr u d) := by unfold Fr; exact inferInstance
def Pt (n : Int) : Prop := -1000000 ≤ n ∧ n ≤ 1000000
instance (n : Int) : Decidable (Pt n) := by unfold Pt; exact inferInstance
theorem gcd_step (a b : Int) : Int.gcd b (Int.tmod a b) = Int.gcd a b := by
  unfold Int.gcd
  rw [Int.natAbs_tmod, Nat.gcd_comm a.natAbs b.natAbs, Nat.gcd_rec b.natAbs a.natAbs, Nat.gcd_comm]
theorem tmod_lt (a b : Int) (h : b ≠ 0) : (Int.tmod a b).natAbs < b.natAbs := by
  rw [Int.natAbs_tmod]
  exact Nat.mod_lt _ (by omega)
theorem tdiv_le (a b : Int) : (Int.tdiv a b).natAbs ≤ a.natAbs := by
  rw [Int.natAbs_tdiv]
  exact Nat.div_le_self _ _
theorem tdiv_w (a b : Int) (h : -1000000 ≤ a ∧ a ≤ 1000000) : wrap64 (Int.tdiv a b) = Int.tdiv a b := by
  have := tdiv_le a b
  exact w64 (by omega)
theorem gcd_le_pt (a b : Int) (ha : Pt a) (hb : Pt b) : (Int.gcd a b : Int) ≤ 1000000 := by
  unfold Pt at ha hb
  by_cases h : a = 0
  · subst h
    rw [Int.zero_gcd]
    omega
  · have := Int.gcd_le_natAbs_left b h
    omega
theorem gcd_pos (a b : Int) (h : ¬(a = 0 ∧ b = 0)) : 0 < Int.gcd a b := by
  rcases Nat.eq_zero_or_pos (Int.gcd a b) with h' | h'
  · exact absurd (Int.gcd_eq_zero_iff.mp h') h
  · exact h'
def sg (u d : Int) : Int := if d < 0 ∨ (d = 0 ∧ u < 0) then -(Int.gcd u d : Int) else (Int.gcd u d : Int)
def lowU (u d : Int) : Int := Int.tdiv u (sg u d)
def lowD (u d : Int) : Int := Int.tdiv d (sg u d)
theorem mulb {a b : Int} (ha : Pt a) (hb : Pt b) : -1000000000000 ≤ a * b ∧ a * b ≤ 1000000000000 := by
  unfold Pt at ha hb
  have h1 : a.natAbs ≤ 1000000 := by omega
  have h2 : b.natAbs ≤ 1000000 := by omega
  have := Nat.mul_le_mul h1 h2
  rw [← Int.natAbs_mul] at this
  omega
theorem wmul {a b : Int} (ha : Pt a) (hb : Pt b) : wrap64 (a * b) = a * b := by
  have := mulb ha hb
  exact w64 (by omega)
theorem Fr.pu {u d : Int} (h : Fr u d) : Pt u := ⟨h.1, h.2.1⟩
theorem Fr.pd {u d : Int} (h : Fr u d) : Pt d := by unfold Fr at h; unfold Pt; omega
theorem Fr.ne {u d : Int} (h : Fr u d) : ¬(-d = 0 ∧ u = 0) := by
  unfold Fr at h; omega
theorem Fr.wn {u d : Int} (h : Fr u d) : wrap64 (-d) = -d := by
  unfold Fr at h; exact w64 (by omega)
theorem Fr.pn {u d : Int} (h : Fr u d) : Pt (-d) := by
  unfold Fr at h; unfold Pt; omega
def ovU (u d : Int) : Int := if u ≤ 0 then d else -d
def ovD (u : Int) : Int := if u ≤ 0 then -u else u
theorem low_one {u d : Int} (h : Int.gcd u d = 1) : lowU u d = (if d < 0 ∨ (d = 0 ∧ u < 0) then -u else u) ∧ lowD u d = (if d < 0 ∨ (d = 0 ∧ u < 0) then -d else d) := by
  unfold lowU lowD sg
  rw [h]
  split
  · simp
  · simp
theorem low_over {u d : Int} (h : Fr u d) : lowU (-d) u = ovU u d ∧ lowD (-d) u = ovD u := by
  have hg : Int.gcd (-d) u = 1 := by rw [Int.neg_gcd, Int.gcd_comm]; exact h.2.2.2.2.2
  obtain ⟨e1, e2⟩ := low_one hg
  rw [e1, e2]
  unfold Fr at h
  unfold ovU ovD
  by_cases h1 : u < 0
  · rw [if_pos (Or.inl h1), if_pos (Or.inl h1), if_pos (by omega), if_pos (by omega)]; omega
  · by_cases h2 : u = 0
    · have : d = 1 ∨ d ≠ 1 := by omega
      have hd : 0 < d := by omega
      rw [if_pos (Or.inr ⟨h2, by omega⟩), if_pos (Or.inr ⟨h2, by omega⟩), if_pos (by omega), if_pos (by omega)]; omega
    · rw [if_neg (by omega), if_neg (by omega), if_neg (by omega), if_neg (by omega)]; omega
theorem Fr.over {u d : Int} (h : Fr u d) : Fr (ovU u d) (ovD u) := by
  have hn := h.ne
  have hg := h.2.2.2.2.2
  have hc : Int.gcd d u = 1 := by rw [Int.gcd_comm]; exact hg
  unfold Fr at h
  unfold ovU ovD
  by_cases h1 : u ≤ 0
  · rw [if_pos h1, if_pos h1]
    exact ⟨by omega, by omega, by omega, by omega, fun x => by
      have hu : u = 0 := by omega
      subst hu
      rw [Int.gcd_zero_right] at hc
      omega, by rw [Int.gcd_neg]; exact hc⟩
  · rw [if_neg h1, if_neg h1]
    exact ⟨by omega, by omega, by omega, by omega, by omega, by rw [Int.neg_gcd]; exact hc⟩
def pl (u d n : Int) : Int × Int × Bool := if Fr (u + n * d) d then (u + n * d, d, true) else (0, 0, false)
theorem wplus {u d n : Int} (hu : Pt u) (hd : Pt d) (hn : Pt n) : wrap64 (u + wrap64 (n * d)) = u + n * d := by
  have := mulb hn hd
  rw [wmul hn hd]
  unfold Pt at hu
  exact w64 (by omega)
theorem gcd_dvd (u d : Int) : (Int.gcd u d : Int) ∣ u ∧ (Int.gcd u d : Int) ∣ d := ⟨Int.gcd_dvd_left u d, Int.gcd_dvd_right u d⟩
theorem wtwo {x y z w : Int} (hx : Pt x) (hy : Pt y) (hz : Pt z) (hw : Pt w) : wrap64 (wrap64 (x * y) + wrap64 (z * w)) = x * y + z * w := by
  have h1 := mulb hx hy
  have h2 := mulb hz hw
  rw [wmul hx hy, wmul hz hw]
  exact w64 (by omega)
def Bg (n : Int) : Prop := -2000000000000 ≤ n ∧ n ≤ 2000000000000
theorem two_bg {x y z w : Int} (hx : Pt x) (hy : Pt y) (hz : Pt z) (hw : Pt w) : Bg (x * y + z * w) := by
  have h1 := mulb hx hy
  have h2 := mulb hz hw
  unfold Bg; omega
theorem bg_neg {n : Int} (h : Bg n) : wrap64 (-n) = -n := by unfold Bg at h; exact w64 (by omega)
def t2 (n : Int) : Bool := decide (2 ≤ n ∧ n ≤ 60)
def led (a b c d u v : Int) : Int × Int × Bool := if Pt (a * u + b * v) ∧ Pt (c * u + d * v) ∧ ¬(a * u + b * v = 0 ∧ c * u + d * v = 0) then (lowU (a * u + b * v) (c * u + d * v), lowD (a * u + b * v) (c * u + d * v), true) else (0, 0, false)
def ofL (l : List UInt8) : ByteArray := ⟨l.toArray⟩
theorem ofL_size (l : List UInt8) : (ofL l).size = l.length := by simp [ofL, ByteArray.size]
theorem ofL_app (l m : List UInt8) : ofL l ++ ofL m = ofL (l ++ m) := by
  apply ByteArray.ext; simp [ofL]
theorem ofL_data (l : List UInt8) : (ofL l).data.toList = l := by simp [ofL]
theorem bt_get (s : ByteArray) (i : Int) (h0 : 0 ≤ i) (h : i.toNat < s.size) : bt s i = (s.data.toList[i.toNat]'(by simpa using h)).toNat := by
  unfold bt
  rw [dif_pos h]
  rfl
def mv (c : UInt8) : Bool := c == 84 || c == 116 || c == 82
def dok (l : List UInt8) : Bool := l.all mv
theorem mv_iff (c : UInt8) : mv c = true ↔ ((c.toNat : Int) = 84 ∨ (c.toNat : Int) = 116 ∨ (c.toNat : Int) = 82) := by
  unfold mv
  simp only [Bool.or_eq_true, beq_iff_eq]
  have e1 : (84 : UInt8).toNat = 84 := rfl
  have e2 : (116 : UInt8).toNat = 116 := rfl
  have e3 : (82 : UInt8).toNat = 82 := rfl
  rw [← UInt8.toNat_inj, ← UInt8.toNat_inj, ← UInt8.toNat_inj, e1, e2, e3]
  omega
def Dn (s : ByteArray) : Prop := dok s.data.toList = true ∧ s.size ≤ 40
instance (s : ByteArray) : Decidable (Dn s) := by unfold Dn; exact inferInstance
def bk (c : UInt8) : UInt8 := if c = 84 then 116 else if c = 116 then 84 else 82
def backL (l : List UInt8) : List UInt8 := (l.reverse).map bk
theorem u8_eq (c : UInt8) (n : Nat) (hn : n < 256) : ((c.toNat : Int) = (n : Int)) ↔ c = UInt8.ofNat n := by
  constructor
  · intro h
    have : c.toNat = n := by omega
    rw [← UInt8.toNat_inj, this]
    simp
    omega
  · intro h
    rw [h]
    simp
    omega
theorem backL_take (s : List UInt8) (n : Nat) (h : n < s.length) : backL (s.take (n + 1)) = bk s[n] :: backL (s.take n) := by
  unfold backL
  rw [List.take_succ_eq_append_getElem h, List.reverse_append]
  simp
theorem backL_len (l : List UInt8) : (backL l).length = l.length := by simp [backL]
theorem impl_isPart_ev (n : Int) : impl_isPart.f n = some (decide (Pt n)) := by
  unfold impl_isPart.f Pt
  split
  · exact sd (by omega)
  · exact sf (by omega)
theorem spec_l1In_ev (n a b : Int) : spec_l1In.f n a b = some (decide (a ≤ n ∧ n ≤ b)) := by
  unfold spec_l1In.f
  split
  · exact sd (by omega)
  · exact sf (by omega)
theorem impl_gcd_l0 (n : Nat) : ∀ (k : Nat) (a b : Int), b.natAbs ≤ n → n < k → a.natAbs ≤ 4611686018427387904 → b.natAbs ≤ 4611686018427387904 → impl_gcd.l0 k a b = some (Int.gcd a b : Int) := by
  induction n with
  | zero =>
    intro k a b hb hk ha _
    obtain ⟨k, rfl⟩ : ∃ m, k = m + 1 := ⟨k - 1, by omega⟩
    have hb0 : b = 0 := by omega
    simp only [impl_gcd.l0]
    rw [if_pos hb0, w64 (by omega), hb0, Int.gcd_zero_right]
    unfold mx; congr 1; split <;> omega
  | succ n ih =>
    intro k a b hb hk ha hb'
    obtain ⟨k, rfl⟩ : ∃ m, k = m + 1 := ⟨k - 1, by omega⟩
    simp only [impl_gcd.l0]
    by_cases h : b = 0
    · rw [if_pos h, w64 (by omega), h, Int.gcd_zero_right]
      unfold mx; congr 1; split <;> omega
    · rw [if_neg h]
      have := tmod_lt a b h
      rw [ih k b (Int.tmod a b) (by omega) (by omega) (by omega) (by omega), gcd_step]
theorem impl_gcd_ev (k : Nat) (hk : 1000002 ≤ k) (a b : Int) (ha : Pt a) (hb : Pt b) : impl_gcd.f k a b = some (Int.gcd a b : Int) := by
  unfold Pt at ha hb
  exact impl_gcd_l0 1000001 k a b (by omega) (by omega) (by omega) (by omega)
theorem impl_isFraction_ev (k : Nat) (hk : 1000002 ≤ k) (u d : Int) : impl_isFraction.f k u d = some (decide (Fr u d)) := by
  unfold impl_isFraction.f
  simp only [impl_isPart_ev, Option.bind_some, decide_eq_true_eq]
  by_cases hu : Pt u
  · rw [if_pos hu]
    by_cases h1 : d < 0
    · rw [if_pos h1]; exact sf (by intro h; unfold Fr at h; omega)
    · rw [if_neg h1]
      by_cases h2 : d > 1000000
      · rw [if_pos h2]; exact sf (by intro h; unfold Fr at h; omega)
      · rw [if_neg h2]
        have hd : Pt d := by unfold Pt; omega
        rw [impl_gcd_ev k hk u d hu hd]
        unfold Pt at hu
        have e : ((Int.gcd u d : Int) == 1) = decide (Int.gcd u d = 1) := by rw [Bool.eq_iff_iff]; simp; omega
        simp only [Option.bind_some, e]
        by_cases h3 : d = 0
        · rw [if_pos h3]
          by_cases h4 : u = 1
          · rw [if_pos h4]; exact sd (by unfold Fr; omega)
          · rw [if_neg h4]; exact sf (by intro h; unfold Fr at h; omega)
        · rw [if_neg h3]; exact sd (by unfold Fr; omega)
  · rw [if_neg hu]; exact sf (by intro h; unfold Fr at h; unfold Pt at hu; omega)
theorem impl_FractionOk_ev (k : Nat) (hk : 1000002 ≤ k) (u d : Int) : impl_FractionOk.f k u d = some (decide (Fr u d)) := by
  unfold impl_FractionOk.f
  rw [impl_isFraction_ev k hk]; rfl
theorem impl_lowest_ev (k : Nat) (hk : 1000002 ≤ k) (u d : Int) (hu : Pt u) (hd : Pt d) (h : ¬(u = 0 ∧ d = 0)) : impl_lowest.f k u d = some (lowU u d, lowD u d) := by
  unfold impl_lowest.f
  rw [impl_gcd_ev k hk u d hu hd]
  simp only [Option.bind_some]
  have hg := gcd_pos u d h
  have hl := gcd_le_pt u d hu hd
  have e1 : wrap64 (-(Int.gcd u d : Int)) = -(Int.gcd u d : Int) := w64 (by omega)
  unfold lowU lowD sg
  rw [e1]
  simp only [tdiv_w _ _ hu, tdiv_w _ _ hd]
  by_cases h1 : d < 0
  · rw [if_pos h1, if_neg (by omega), if_pos (by omega)]
  · rw [if_neg h1]
    by_cases h2 : d = 0
    · rw [if_pos h2]
      by_cases h3 : u < 0
      · rw [if_pos h3, if_neg (by omega), if_pos (by omega)]
      · rw [if_neg h3, if_neg (by omega), if_neg (by omega)]
    · rw [if_neg h2, if_neg (by omega), if_neg (by omega)]
theorem impl_lowest_over (k : Nat) (hk : 1000002 ≤ k) {u d : Int} (h : Fr u d) : impl_lowest.f k (wrap64 (-d)) u = some (ovU u d, ovD u) := by
  rw [h.wn, impl_lowest_ev k hk _ _ h.pn h.pu h.ne, (low_over h).1, (low_over h).2]
theorem impl_LowestOf_ev (k : Nat) (hk : 1000002 ≤ k) (u d : Int) : impl_LowestOf.f k u d = some (if Pt u ∧ Pt d ∧ ¬(u = 0 ∧ d = 0) then (lowU u d, lowD u d, true) else (0, 0, false)) := by
  unfold impl_LowestOf.f
  simp only [impl_isPart_ev, Option.bind_some, decide_eq_true_eq]
  by_cases hu : Pt u
  · rw [if_pos hu]
    by_cases hd : Pt d
    · rw [if_pos hd]
      by_cases h : u = 0 ∧ d = 0
      · rw [if_pos h.1, if_pos h.2, if_neg (fun x => x.2.2 h)]
      · have hp : Pt u ∧ Pt d ∧ ¬(u = 0 ∧ d = 0) := ⟨hu, hd, h⟩
        rw [if_pos hp, impl_lowest_ev k hk u d hu hd h]
        simp only [Option.bind_some]
        by_cases h1 : u = 0
        · rw [if_pos h1, if_neg (by omega)]
        · rw [if_neg h1]
    · rw [if_neg hd, if_neg (fun x => hd x.2.1)]
  · rw [if_neg hu, if_neg (fun x => hu x.1)]
theorem impl_plus_ev (k : Nat) (hk : 1000002 ≤ k) (u d n : Int) (h : Fr u d) (hn : Pt n) : impl_plus.f k u d n = some (pl u d n) := by
  unfold impl_plus.f
  rw [wplus h.pu h.pd hn, impl_isFraction_ev k hk]
  unfold pl
  simp only [Option.bind_some, decide_eq_true_eq]
  split <;> rfl
def Mp (a b c d : Int) : Prop := Pt a ∧ Pt b ∧ Pt c ∧ Pt d ∧ a * d - b * c = 1 ∧ (0 < c ∨ c = 0 ∧ 0 < d)
instance (a b c d : Int) : Decidable (Mp a b c d) := by unfold Mp; exact inferInstance
theorem wdet {a b c d : Int} (ha : Pt a) (hb : Pt b) (hc : Pt c) (hd : Pt d) : wrap64 (wrap64 (a * d) - wrap64 (b * c)) = a * d - b * c := by
  have h1 := mulb ha hd
  have h2 := mulb hb hc
  rw [wmul ha hd, wmul hb hc]
  exact w64 (by omega)
theorem spec_MapOk_ev (a b c d : Int) : spec_MapOk.f a b c d = some (decide (Mp a b c d)) := by
  have pt : ∀ n : Int, (-1000000 ≤ n ∧ n ≤ 1000000) ↔ Pt n := fun n => Iff.rfl
  unfold spec_MapOk.f
  simp only [spec_l1In_ev, Option.bind_some, decide_eq_true_eq, pt]
  by_cases ha : Pt a
  · rw [if_pos ha]
    by_cases hb : Pt b
    · rw [if_pos hb]
      by_cases hc : 0 ≤ c ∧ c ≤ 1000000
      · rw [if_pos hc]
        have hc' : Pt c := by unfold Pt; omega
        by_cases hd : Pt d
        · rw [if_pos hd, wdet ha hb hc' hd]
          by_cases h : a * d - b * c = 1
          · rw [if_pos h]
            by_cases h3 : c > 0
            · rw [if_pos h3]; exact st ⟨ha, hb, hc', hd, h, Or.inl h3⟩
            · rw [if_neg h3]; exact sd ⟨fun x => ⟨ha, hb, hc', hd, h, Or.inr ⟨by omega, x⟩⟩, fun x => by have := x.2.2.2.2.2; omega⟩
          · rw [if_neg h]; exact sf (fun x => h x.2.2.2.2.1)
        · rw [if_neg hd]; exact sf (fun x => hd x.2.2.2.1)
      · rw [if_neg hc]; exact sf (fun x => hc (by have h1 := x.2.2.1; have h2 := x.2.2.2.2.2; unfold Pt at h1; omega))
    · rw [if_neg hb]; exact sf (fun x => hb x.2.1)
  · rw [if_neg ha]; exact sf (fun x => ha x.1)
theorem impl_isMap_ev (a b c d : Int) : impl_isMap.f a b c d = some (decide (Mp a b c d)) := by
  unfold impl_isMap.f
  simp only [impl_isPart_ev, Option.bind_some, decide_eq_true_eq]
  by_cases ha : Pt a
  · rw [if_pos ha]
    by_cases hb : Pt b
    · rw [if_pos hb]
      by_cases hc : Pt c
      · rw [if_pos hc]
        by_cases hd : Pt d
        · rw [if_pos hd, wdet ha hb hc hd]
          by_cases h : a * d - b * c = 1
          · rw [if_pos h]
            by_cases h3 : c > 0
            · rw [if_pos h3]; exact st ⟨ha, hb, hc, hd, h, Or.inl h3⟩
            · rw [if_neg h3]
              by_cases h4 : c = 0
              · rw [if_pos h4]; exact sd ⟨fun x => ⟨ha, hb, hc, hd, h, Or.inr ⟨h4, x⟩⟩, fun x => by have := x.2.2.2.2.2; omega⟩
              · rw [if_neg h4]; exact sf (fun x => by have := x.2.2.2.2.2; omega)
          · rw [if_neg h]; exact sf (fun x => h x.2.2.2.2.1)
        · rw [if_neg hd]; exact sf (fun x => hd x.2.2.2.1)
      · rw [if_neg hc]; exact sf (fun x => hc x.2.2.1)
    · rw [if_neg hb]; exact sf (fun x => hb x.2.1)
  · rw [if_neg ha]; exact sf (fun x => ha x.1)
theorem impl_MapOk_ev (a b c d : Int) : impl_MapOk.f a b c d = some (decide (Mp a b c d)) := by
  unfold impl_MapOk.f
  rw [impl_isMap_ev]; rfl
def sgn5 (a b c d : Int) : Int × Int × Int × Int := if c < 0 ∨ (c = 0 ∧ d < 0) then (-a, -b, -c, -d) else (a, b, c, d)
def m5 (m : Int × Int × Int × Int) : Int × Int × Int × Int × Bool := if Mp m.1 m.2.1 m.2.2.1 m.2.2.2 then (m.1, m.2.1, m.2.2.1, m.2.2.2, true) else (0, 0, 0, 0, false)
def bh (a b c d a' b' c' d' : Int) : Int × Int × Int × Int × Bool := m5 (sgn5 (a' * a + b' * c) (a' * b + b' * d) (c' * a + d' * c) (c' * b + d' * d))
theorem spec_l5Signed_ev (a b c d : Int) (ha : Bg a) (hb : Bg b) (hc : Bg c) (hd : Bg d) : spec_l5Signed.f a b c d = some (sgn5 a b c d) := by
  unfold spec_l5Signed.f sgn5
  rw [bg_neg ha, bg_neg hb, bg_neg hc, bg_neg hd]
  by_cases h1 : c < 0
  · rw [if_pos h1, if_pos (Or.inl h1)]
  · rw [if_neg h1]
    by_cases h2 : c = 0
    · rw [if_pos h2]
      by_cases h3 : d < 0
      · rw [if_pos h3, if_pos (Or.inr ⟨h2, h3⟩)]
      · rw [if_neg h3, if_neg (by omega)]
    · rw [if_neg h2, if_neg (by omega)]
theorem spec_BehindOf_ev (k : Nat) (hk : 1 ≤ k) (a b c d a' b' c' d' : Int) : spec_BehindOf.f k a b c d a' b' c' d' = some (if Mp a b c d ∧ Mp a' b' c' d' then bh a b c d a' b' c' d' else (0, 0, 0, 0, false)) := by
  obtain ⟨k, rfl⟩ : ∃ m, k = m + 1 := ⟨k - 1, by omega⟩
  unfold spec_BehindOf.f
  simp only [spec_MapOk_ev, Option.bind_some, decide_eq_true_eq]
  by_cases h1 : Mp a b c d
  · rw [if_pos h1]
    by_cases h2 : Mp a' b' c' d'
    · have hp : Mp a b c d ∧ Mp a' b' c' d' := ⟨h1, h2⟩
      rw [if_pos hp]
      obtain ⟨pa, pb, pc, pd, _⟩ := h1
      obtain ⟨pa', pb', pc', pd', _⟩ := id h2
      have : (!decide (Mp a' b' c' d')) = false := by simpa using h2
      rw [this]
      simp only [spec_BehindOf.j0]
      rw [if_neg (by simp), wtwo pa' pa pb' pc, wtwo pa' pb pb' pd, wtwo pc' pa pd' pc, wtwo pc' pb pd' pd]
      rw [spec_l5Signed_ev _ _ _ _ (two_bg pa' pa pb' pc) (two_bg pa' pb pb' pd) (two_bg pc' pa pd' pc) (two_bg pc' pb pd' pd)]
      simp only [spec_MapOk_ev, Option.bind_some, decide_eq_true_eq]
      unfold bh m5
      split <;> rfl
    · have : (!decide (Mp a' b' c' d')) = true := by simpa using h2
      rw [this, if_neg (fun x => h2 x.2)]
      simp only [spec_BehindOf.j0]
      rw [if_pos trivial]
  · rw [if_neg h1, if_neg (fun x => h1 x.1)]
    simp only [spec_BehindOf.j0]
    rw [if_pos trivial]
theorem bh_or (a b c d a' b' c' d' : Int) : (∃ A B C D, bh a b c d a' b' c' d' = (A, B, C, D, true) ∧ Mp A B C D) ∨ bh a b c d a' b' c' d' = (0, 0, 0, 0, false) := by
  unfold bh m5
  split
  · exact Or.inl ⟨_, _, _, _, rfl, by assumption⟩
  · exact Or.inr rfl
theorem impl_behind_j0 (k : Nat) (x : Bool) (a b c d : Int) (ha : Bg a) (hb : Bg b) (hc : Bg c) (hd : Bg d) (hx : x = decide (c < 0 ∨ (c = 0 ∧ d < 0))) : impl_behind.j0 (k + 1) x a b c d = some (m5 (sgn5 a b c d)) := by
  simp only [impl_behind.j0]
  rw [bg_neg ha, bg_neg hb, bg_neg hc, bg_neg hd]
  simp only [impl_isMap_ev, Option.bind_some, decide_eq_true_eq]
  subst hx
  simp only [decide_eq_true_eq]
  unfold m5 sgn5
  by_cases h : c < 0 ∨ (c = 0 ∧ d < 0)
  · rw [if_pos h, if_pos h]
    split <;> rfl
  · rw [if_neg h, if_neg h]
    split <;> rfl
theorem impl_behind_ev (k : Nat) (hk : 1 ≤ k) (a b c d a' b' c' d' : Int) (h1 : Mp a b c d) (h2 : Mp a' b' c' d') : impl_behind.f k a b c d a' b' c' d' = some (bh a b c d a' b' c' d') := by
  obtain ⟨k, rfl⟩ : ∃ m, k = m + 1 := ⟨k - 1, by omega⟩
  obtain ⟨pa, pb, pc, pd, _⟩ := h1
  obtain ⟨pa', pb', pc', pd', _⟩ := h2
  unfold impl_behind.f bh
  rw [wtwo pa' pa pb' pc, wtwo pa' pb pb' pd, wtwo pc' pa pd' pc, wtwo pc' pb pd' pd]
  have j := fun x hx => impl_behind_j0 k x _ _ _ _ (two_bg pa' pa pb' pc) (two_bg pa' pb pb' pd) (two_bg pc' pa pd' pc) (two_bg pc' pb pd' pd) hx
  generalize c' * a + d' * c = m at *
  generalize c' * b + d' * d = n at *
  by_cases h3 : m < 0
  · rw [if_pos h3]; exact j true (by simp [h3])
  · rw [if_neg h3]
    by_cases h4 : m = 0
    · rw [if_pos h4]; exact j _ (by rw [decide_eq_decide]; omega)
    · rw [if_neg h4]; exact j false (by symm; rw [decide_eq_false_iff_not]; omega)
theorem impl_BehindOf_ev (k : Nat) (hk : 1 ≤ k) (a b c d a' b' c' d' : Int) : impl_BehindOf.f k a b c d a' b' c' d' = some (if Mp a b c d ∧ Mp a' b' c' d' then bh a b c d a' b' c' d' else (0, 0, 0, 0, false)) := by
  unfold impl_BehindOf.f
  simp only [impl_isMap_ev, Option.bind_some, decide_eq_true_eq]
  by_cases h1 : Mp a b c d
  · rw [if_pos h1]
    by_cases h2 : Mp a' b' c' d'
    · have hp : Mp a b c d ∧ Mp a' b' c' d' := ⟨h1, h2⟩
      rw [if_pos h2, if_pos hp, impl_behind_ev k hk _ _ _ _ _ _ _ _ h1 h2]; rfl
    · rw [if_neg h2, if_neg (fun x => h2 x.2)]
  · rw [if_neg h1, if_neg (fun x => h1 x.1)]
def Bs (l : List Int) : Prop := l.length ≤ 2000 ∧ ∀ i, 0 ≤ rd l i ∧ rd l i ≤ 255
theorem xor_nn (a b : Int) (ha : 0 ≤ a ∧ a ≤ 4611686018427387903) (hb : 0 ≤ b ∧ b ≤ 4611686018427387903) : 0 ≤ Go.bits .xor .i64 a b := by
  obtain ⟨m, rfl⟩ : ∃ m : Nat, a = m := ⟨a.toNat, by omega⟩
  obtain ⟨n, rfl⟩ : ∃ m : Nat, b = m := ⟨b.toNat, by omega⟩
  have hm : m < 2 ^ 62 := by omega
  have hn : n < 2 ^ 62 := by omega
  have hx := Nat.xor_lt_two_pow hm hn
  have e1 : m % 2 ^ IntKind.i64.bits = m := Nat.mod_eq_of_lt (Nat.lt_trans hm (by decide))
  have e2 : n % 2 ^ IntKind.i64.bits = n := Nat.mod_eq_of_lt (Nat.lt_trans hn (by decide))
  simp only [Go.bits, BitVec.ofInt_natCast, BitVec.toNat_xor, BitVec.toNat_ofNat, e1, e2]
  have e3 := IntKind.wrap_i64 ((m ^^^ n : Nat) : Int)
  rw [e3]
  omega
theorem tmod_rng (a n : Int) (ha : 0 ≤ a) (hn : 1 ≤ n) : 0 ≤ Int.tmod a n ∧ Int.tmod a n < n := ⟨Int.tmod_nonneg n ha, Int.tmod_lt_of_pos a (by omega)⟩
theorem pick_ev (k : Nat) (hk : 1 ≤ k) (l : List Int) (hl : Bs l) (p n : Int) (hp : 0 ≤ p ∧ p ≤ 1000000) (hn : n ≤ 10000000) :
    ∃ r, spec_l20Rd_pick.f k l p n = some (r, p + 1) ∧ 0 ≤ r ∧ (1 ≤ n → r < n) ∧ (n < 1 → r = 0) := by
  obtain ⟨k, rfl⟩ : ∃ m, k = m + 1 := ⟨k - 1, by omega⟩
  unfold spec_l20Rd_pick.f
  have e0 : wrap64 (p + 1) = p + 1 := w64 (by omega)
  have e1 : wrap64 (p + 1 - 1) = p := by rw [w64 (by omega)]; omega
  rw [e0]
  by_cases h1 : n < 1
  · rw [if_pos h1]
    simp only [spec_l20Rd_pick.j0]
    rw [if_pos trivial]
    exact ⟨0, rfl, by omega, by omega, fun _ => rfl⟩
  · rw [if_neg h1]
    simp only [spec_l20Rd_pick.j0]
    by_cases h2 : (l.length : Int) = 0
    · rw [if_pos (by simpa using h2)]
      exact ⟨0, rfl, by omega, by omega, fun _ => rfl⟩
    · rw [if_neg (by simpa using h2), e1]
      have hn0 : ¬ n = 0 := by omega
      by_cases h3 : p < (l.length : Int)
      · rw [if_pos h3, if_pos hp.1, if_neg hn0]
        have hr := hl.2 p
        rw [w64 (by omega : -9223372036854775808 ≤ rd l p ∧ _)]
        have := tmod_rng (rd l p) n (by omega) (by omega)
        exact ⟨_, rfl, this.1, fun _ => this.2, by omega⟩
      · rw [if_neg h3, if_neg h2]
        have t1 := tmod_rng p (l.length : Int) hp.1 (by omega)
        have e7 : wrap64 (wrap64 (p * 7) + 3) = p * 7 + 3 := by rw [w64 (by omega : -9223372036854775808 ≤ p * 7 ∧ _), w64 (by omega)]
        rw [e7]
        have t2 := tmod_rng (p * 7 + 3) (l.length : Int) (by omega) (by omega)
        rw [if_pos t1.1, if_pos t1.2, if_pos t2.1, if_pos t2.2, if_neg hn0]
        have r1 := hl.2 (Int.tmod p (l.length : Int))
        have r2 := hl.2 (Int.tmod (p * 7 + 3) (l.length : Int))
        generalize rd l (Int.tmod p (l.length : Int)) = a at r1 ⊢
        generalize rd l (Int.tmod (p * 7 + 3) (l.length : Int)) = b at r2 ⊢
        have q0 := tdiv_le p (l.length : Int)
        have q1 : 0 ≤ Int.tdiv p (l.length : Int) := Int.tdiv_nonneg hp.1 (by omega)
        generalize Int.tdiv p (l.length : Int) = q at q0 q1 ⊢
        have e2 : wrap64 a = a := w64 (by omega)
        have e3 : wrap64 b = b := w64 (by omega)
        have e4 : wrap64 q = q := w64 (by omega)
        rw [e2, e3, e4]
        have e5 : wrap64 (a * 131) = a * 131 := w64 (by omega)
        have e6 : wrap64 (b * 1117) = b * 1117 := w64 (by omega)
        have e8 : wrap64 (q * 53) = q * 53 := w64 (by omega)
        have e9 : wrap64 (p * 29) = p * 29 := w64 (by omega)
        rw [e5, e6, e8, e9]
        have e10 : wrap64 (a * 131 + b * 1117) = a * 131 + b * 1117 := w64 (by omega)
        rw [e10]
        have e11 : wrap64 (a * 131 + b * 1117 + p * 29) = a * 131 + b * 1117 + p * 29 := w64 (by omega)
        rw [e11]
        have e12 : wrap64 (a * 131 + b * 1117 + p * 29 + q * 53) = a * 131 + b * 1117 + p * 29 + q * 53 := w64 (by omega)
        rw [e12]
        have hX : 0 ≤ a * 131 + b * 1117 + p * 29 + q * 53 ∧ a * 131 + b * 1117 + p * 29 + q * 53 ≤ 4611686018427387903 := by omega
        generalize a * 131 + b * 1117 + p * 29 + q * 53 = X at hX ⊢
        have q2 := tdiv_le X 64
        have q3 : 0 ≤ Int.tdiv X 64 := Int.tdiv_nonneg hX.1 (by omega)
        have e13 : wrap64 (Int.tdiv X 64) = Int.tdiv X 64 := w64 (by omega)
        rw [e13]
        have := tmod_rng _ n (xor_nn X (Int.tdiv X 64) hX (by omega)) (by omega)
        exact ⟨_, rfl, this.1, fun _ => this.2, by omega⟩
theorem odd_ev (k : Nat) (hk : 1 ≤ k) (l : List Int) (hl : Bs l) (p n : Int) (hp : 0 ≤ p ∧ p ≤ 1000000) (hn : n ≤ 10000000) :
    ∃ b p', spec_l20Rd_odd.f k l p n = some (b, p') ∧ p ≤ p' ∧ p' ≤ p + 1 := by
  unfold spec_l20Rd_odd.f
  by_cases h : n > 0
  · rw [if_pos h]
    obtain ⟨r, e, _⟩ := pick_ev k hk l hl p n hp hn
    rw [e]
    exact ⟨_, _, rfl, by omega, by omega⟩
  · rw [if_neg h]; exact ⟨_, _, rfl, by omega, by omega⟩
theorem open_ev (l : List Int) (hw : ∀ x ∈ l, (Lit.int .u8 x).wf = true) : ∃ m, spec_l20Open.f l = some (m, 0) ∧ Bs m := by
  have key : ∀ m : List Int, m.length ≤ 2000 → (∀ x ∈ m, x ∈ l) → Bs m := by
    intro m hm hs
    refine ⟨hm, fun i => ?_⟩
    unfold rd
    by_cases h : i.toNat < m.length
    · have : m.getD i.toNat 0 = m[i.toNat] := by simp [h]
      rw [this]
      have h1 := hw _ (hs _ (List.getElem_mem h))
      simp [Lit.wf, IntKind.min, IntKind.max, IntKind.signed, IntKind.bits] at h1
      omega
    · have : m.getD i.toNat 0 = 0 := by simp [Nat.le_of_not_lt h]
      rw [this]; omega
  unfold spec_l20Open.f
  by_cases h : (l.length : Int) > 2000
  · rw [if_pos h, if_pos (by omega)]
    exact ⟨_, rfl, key _ (by simp; omega) (fun x hx => List.mem_of_mem_take hx)⟩
  · rw [if_neg h]
    exact ⟨_, rfl, key _ (by omega) (fun x hx => hx)⟩
theorem alive_ev (k : Nat) (hk : 1000002 ≤ k) : laws_alive.f k = some true := by
  unfold laws_alive.f
  simp only [impl_FractionOk_ev k hk, Option.bind_some]
  decide
theorem spec_DanceOk_l0 (s : ByteArray) (hn : s.size ≤ 1000000000) (d : Nat) : ∀ (k : Nat) (i : Int), 0 ≤ i → i + d = s.size → d < k → spec_DanceOk.l0 k s i = some (decide (dok (s.data.toList.drop i.toNat) = true ∧ s.size ≤ 40)) := by
  have hsz : s.data.toList.length = s.size := by simp
  induction d with
  | zero =>
    intro k i h0 hd hk
    obtain ⟨k, rfl⟩ : ∃ m, k = m + 1 := ⟨k - 1, by omega⟩
    simp only [spec_DanceOk.l0]
    rw [if_neg (by omega), List.drop_eq_nil_of_le (by omega)]
    exact sd ⟨fun x => ⟨rfl, by omega⟩, fun x => by omega⟩
  | succ d ih =>
    intro k i h0 hd hk
    obtain ⟨k, rfl⟩ : ∃ m, k = m + 1 := ⟨k - 1, by omega⟩
    simp only [spec_DanceOk.l0]
    have h1 : i.toNat < s.size := by omega
    have h2 : i.toNat < s.data.toList.length := by omega
    rw [if_pos (by omega), if_pos h0, w64 (by omega), ih k (i + 1) (by omega) (by omega) (by omega)]
    have e : (i + 1).toNat = i.toNat + 1 := by omega
    rw [e, bt_get s i h0 h1, List.drop_eq_getElem_cons h2]
    generalize s.data.toList[i.toNat] = c
    have hm := mv_iff c
    have hc : dok (c :: List.drop (i.toNat + 1) s.data.toList) = (mv c && dok (List.drop (i.toNat + 1) s.data.toList)) := rfl
    rw [hc]
    by_cases c1 : (c.toNat : Int) = 84
    · rw [if_pos c1]; have : mv c = true := hm.2 (Or.inl c1); rw [this, Bool.true_and]
    · rw [if_neg c1]
      by_cases c2 : (c.toNat : Int) = 116
      · rw [if_pos c2]; have : mv c = true := hm.2 (Or.inr (Or.inl c2)); rw [this, Bool.true_and]
      · rw [if_neg c2]
        by_cases c3 : (c.toNat : Int) = 82
        · rw [if_pos c3]; have : mv c = true := hm.2 (Or.inr (Or.inr c3)); rw [this, Bool.true_and]
        · rw [if_neg c3]
          have : mv c = false := by
            rcases Bool.eq_false_or_eq_true (mv c) with h | h
            · have := hm.1 h; omega
            · exact h
          rw [this, Bool.false_and]
          exact sf (by simp)
theorem spec_DanceOk_ev (k : Nat) (s : ByteArray) (hk : s.size < k) (hn : s.size ≤ 1000000000) : spec_DanceOk.f k s = some (decide (Dn s)) := by
  unfold spec_DanceOk.f
  rw [spec_DanceOk_l0 s hn s.size k 0 (by omega) (by omega) hk]
  rfl
theorem rdOf_sz (L : List ByteArray) (h : ∀ x ∈ L, x.size ≤ 50) (r : Int) : (rdOf ByteArray.empty L r).size ≤ 50 := by
  unfold rdOf
  by_cases hr : r.toNat < L.length
  · have : L.getD r.toNat ByteArray.empty = L[r.toNat] := by simp [hr]
    rw [this]
    exact h _ (List.getElem_mem hr)
  · have : L.getD r.toNat ByteArray.empty = ByteArray.empty := by simp [Nat.le_of_not_lt hr]
    rw [this]
    decide
theorem dance_ev (k : Nat) (l : List Int) (hl : Bs l) (p a n : Int) (hk : a.toNat + 4 < k) (hp : 0 ≤ p ∧ p ≤ 900000) (ha : 0 ≤ a ∧ a ≤ 1000) (hn : n ≤ 10000000) :
    ∃ s p', spec_l20Dance.f k l p a n = some (s, p') ∧ p ≤ p' ∧ p' ≤ p + a + 5 ∧ s.size ≤ 50 * a.toNat + 50 := by
  have j : ∀ (d : Nat) (k : Nat) (s : ByteArray) (p : Int), d + 2 < k → 0 ≤ p → p + d ≤ 901010 → s.size + 50 * d ≤ 100000 → ∃ t p', spec_l20Dance.l0 k n s (d : Int) l p = some (t, p') ∧ p ≤ p' ∧ p' ≤ p + d + 2 ∧ t.size ≤ s.size + 50 * d + 50 := by
    intro d
    induction d with
    | zero =>
      intro k s p hk h0 h1 hs
      obtain ⟨k, rfl⟩ : ∃ m, k = m + 1 := ⟨k - 1, by omega⟩
      simp only [spec_l20Dance.l0]
      rw [if_neg (by omega)]
      obtain ⟨b, p', e, h2, h3⟩ := odd_ev k (by omega) l hl p n (by omega) hn
      rw [e]
      simp only [Option.bind_some]
      by_cases hb : b = true
      · rw [if_pos hb]
        obtain ⟨r, e2, h4, h5, _⟩ := pick_ev k (by omega) l hl p' 3 (by omega) (by omega)
        rw [e2]
        simp only [Option.bind_some]
        have h6 := h5 (by omega)
        rw [if_pos h4, if_pos (by simp only [List.length_cons, List.length_nil]; omega)]
        split
        · exact ⟨_, _, rfl, by omega, by omega, by rw [ByteArray.size_append]; exact Nat.le_trans (Nat.add_le_add_left (rdOf_sz _ (by decide) r) _) (by omega)⟩
        · rename_i hc
          exact absurd (Nat.le_trans (Nat.add_le_add_left (rdOf_sz _ (by decide) r) _) (by omega)) hc
      · rw [if_neg hb]
        exact ⟨_, _, rfl, by omega, by omega, by omega⟩
    | succ d ih =>
      intro k s p hk h0 h1 hs
      obtain ⟨k, rfl⟩ : ∃ m, k = m + 1 := ⟨k - 1, by omega⟩
      simp only [spec_l20Dance.l0]
      rw [if_pos (by omega)]
      simp only [Option.bind_some]
      obtain ⟨r, e2, h4, h5, _⟩ := pick_ev k (by omega) l hl p 6 (by omega) (by omega)
      rw [e2]
      simp only [Option.bind_some]
      have h6 := h5 (by omega)
      rw [if_pos h4, if_pos (by simp only [List.length_cons, List.length_nil]; omega), if_pos (Nat.le_trans (Nat.add_le_add_left (rdOf_sz _ (by decide) r) _) (by omega)), w64 (by omega)]
      have h7 := rdOf_sz [(⟨#[84]⟩ : ByteArray), (⟨#[84]⟩ : ByteArray), (⟨#[82]⟩ : ByteArray), (⟨#[116]⟩ : ByteArray), (⟨#[82]⟩ : ByteArray), (⟨#[84]⟩ : ByteArray)] (by decide) r
      have e3 : ((d + 1 : Nat) : Int) - 1 = (d : Int) := by omega
      rw [e3]
      obtain ⟨t, p', e4, h8, h9, h10⟩ := ih k (s ++ rdOf ByteArray.empty [(⟨#[84]⟩ : ByteArray), (⟨#[84]⟩ : ByteArray), (⟨#[82]⟩ : ByteArray), (⟨#[116]⟩ : ByteArray), (⟨#[82]⟩ : ByteArray), (⟨#[84]⟩ : ByteArray)] r) (p + 1) (by omega) (by omega) (by omega) (by rw [ByteArray.size_append]; omega)
      rw [ByteArray.size_append] at h10
      exact ⟨t, p', e4, by omega, by omega, by omega⟩
  unfold spec_l20Dance.f
  rw [w64 (by omega)]
  obtain ⟨r, e1, h1, h2, _⟩ := pick_ev k (by omega) l hl p (a + 1) (by omega) (by omega)
  rw [e1]
  simp only [Option.bind_some]
  have h3 := h2 (by omega)
  obtain ⟨d, rfl⟩ : ∃ d : Nat, r = d := ⟨r.toNat, by omega⟩
  obtain ⟨t, p', e4, h8, h9, h10⟩ := j d k (⟨#[]⟩ : ByteArray) (p + 1) (by omega) (by omega) (by omega) (by show 0 + 50 * d ≤ 100000; omega)
  have e0 : (⟨#[]⟩ : ByteArray).size = 0 := rfl
  rw [e0] at h10
  exact ⟨t, p', e4, by omega, by omega, by omega⟩
theorem impl_LedBy_ev (k : Nat) (hk : 1000003 ≤ k) (a b c d u v : Int) : impl_LedBy.f k a b c d u v = some (if Mp a b c d ∧ Fr u v then led a b c d u v else (0, 0, false)) := by
  unfold impl_LedBy.f
  simp only [impl_isMap_ev, impl_isFraction_ev k (by omega), Option.bind_some, decide_eq_true_eq]
  by_cases h1 : Mp a b c d
  · rw [if_pos h1]
    by_cases h2 : Fr u v
    · have hp : Mp a b c d ∧ Fr u v := ⟨h1, h2⟩
      obtain ⟨pa, pb, pc, pd, _⟩ := h1
      rw [if_pos h2, if_pos hp, wtwo pa h2.pu pb h2.pd, wtwo pc h2.pu pd h2.pd, impl_LowestOf_ev k (by omega)]
      rfl
    · rw [if_neg h2, if_neg (fun x => h2 x.2)]
  · rw [if_neg h1, if_neg (fun x => h1 x.1)]
def ovr (f : Int × Int) : Int × Int := (ovU f.1 f.2, ovD f.1)
def plusO (f : Int × Int) (n : Int) : Option (Int × Int) := if Fr (f.1 + n * f.2) f.2 then some (f.1 + n * f.2, f.2) else none
def mvO (f : Int × Int) (c : UInt8) : Option (Int × Int) := if c = 84 then plusO f 1 else if c = 116 then plusO f (-1) else some (ovr f)
def dnc : (Int × Int) → List UInt8 → Option (Int × Int)
  | f, [] => some f
  | f, c :: l => (mvO f c).bind fun g => dnc g l
theorem plusO_fr {f g : Int × Int} {n : Int} (h : plusO f n = some g) : Fr g.1 g.2 ∧ g = (f.1 + n * f.2, f.2) := by
  unfold plusO at h
  split at h
  · have e := Option.some.inj h
    rw [← e]
    exact ⟨by assumption, rfl⟩
  · cases h
theorem mv_cases {c : UInt8} (h : mv c = true) : c = 84 ∨ c = 116 ∨ c = 82 := by
  unfold mv at h
  simp only [Bool.or_eq_true, beq_iff_eq] at h
  rcases h with (h | h) | h
  · exact Or.inl h
  · exact Or.inr (Or.inl h)
  · exact Or.inr (Or.inr h)
theorem mvO_T (f : Int × Int) : mvO f 84 = plusO f 1 := by unfold mvO; rw [if_pos rfl]
theorem mvO_t (f : Int × Int) : mvO f 116 = plusO f (-1) := by unfold mvO; rw [if_neg (by decide), if_pos rfl]
theorem backL_cons (c : UInt8) (l : List UInt8) : backL (c :: l) = backL l ++ [bk c] := by
  unfold backL; simp
theorem bk_bk {c : UInt8} (h : mv c = true) : bk (bk c) = c ∧ mv (bk c) = true := by
  rcases mv_cases h with rfl | rfl | rfl <;> decide
theorem dok_cons (c : UInt8) (l : List UInt8) : dok (c :: l) = (mv c && dok l) := rfl
theorem dok_backL (l : List UInt8) (h : dok l = true) : dok (backL l) = true := by
  unfold dok backL at *
  rw [List.all_eq_true] at *
  intro x hx
  rw [List.mem_map] at hx
  obtain ⟨y, hy, rfl⟩ := hx
  rw [List.mem_reverse] at hy
  exact (bk_bk (h y hy)).2
def mvT (f : Int × Int) (c : UInt8) : Int × Int := if c = 84 then (f.1 + f.2, f.2) else if c = 116 then (f.1 - f.2, f.2) else ovr f
def totL (f : Int × Int) (l : List UInt8) : Int × Int := l.foldl mvT f
theorem mvO_mvT {f g : Int × Int} {c : UInt8} (h : mvO f c = some g) : g = mvT f c := by
  unfold mvO at h
  unfold mvT
  split at h
  · rename_i hc; rw [if_pos hc]
    have := (plusO_fr h).2
    rw [Int.one_mul] at this; exact this
  · rename_i hc; rw [if_neg hc]
    split at h
    · rename_i hc2; rw [if_pos hc2]
      have := (plusO_fr h).2
      have e : f.1 + -1 * f.2 = f.1 - f.2 := by omega
      rw [e] at this; exact this
    · rename_i hc2; rw [if_neg hc2]; exact (Option.some.inj h).symm
theorem dnc_tot (l : List UInt8) : ∀ {f g : Int × Int}, dnc f l = some g → g = totL f l := by
  induction l with
  | nil => intro f g h; exact (Option.some.inj h).symm
  | cons c l ih =>
    intro f g h
    obtain ⟨x, h1, h2⟩ := Option.bind_eq_some_iff.mp (show (mvO f c).bind (fun g => dnc g l) = some g from h)
    rw [ih h2, mvO_mvT h1]
    rfl
theorem impl_areMoves_ev (s : ByteArray) (hn : s.size ≤ 1000000000) : impl_areMoves.f s = some (dok s.data.toList) := by
  unfold impl_areMoves.f; rw [if_pos (by omega)]; rfl
theorem impl_isDance_ev (s : ByteArray) : impl_isDance.f s = some (decide (Dn s)) := by
  unfold impl_isDance.f
  by_cases h : (s.size : Int) ≤ 40
  · rw [if_pos h, impl_areMoves_ev s (by omega)]
    show some (dok s.data.toList) = _
    congr 1
    by_cases hd : dok s.data.toList = true
    · rw [hd, decide_eq_true (show Dn s from ⟨hd, by omega⟩)]
    · rw [decide_eq_false (show ¬ Dn s from fun x => hd x.1)]; simpa using hd
  · rw [if_neg h, decide_eq_false (fun x => h (by have := x.2; omega))]
theorem impl_backMove_ev (c : UInt8) : impl_backMove.f (c.toNat : Int) = some (ofL [bk c]) := by
  have q1' : ((c.toNat : Int) = 84) ↔ c = 84 := u8_eq c 84 (by omega)
  have q2' : ((c.toNat : Int) = 116) ↔ c = 116 := u8_eq c 116 (by omega)
  unfold impl_backMove.f bk
  by_cases c1 : c = 84
  · rw [if_pos (q1'.2 c1), if_pos c1]; rfl
  · rw [if_neg (fun x => c1 (q1'.1 x)), if_neg c1]
    by_cases c2 : c = 116
    · rw [if_pos (q2'.2 c2), if_pos c2]; rfl
    · rw [if_neg (fun x => c2 (q2'.1 x)), if_neg c2]; rfl
theorem impl_BackOf_l0 (s : ByteArray) (h40 : s.size ≤ 40) (n : Nat) : ∀ (k : Nat) (l : List UInt8), n < k → n ≤ s.size → l.length + n ≤ 1000 → impl_BackOf.l0 k s (ofL l) ((n : Int) - 1) = some (ofL (l ++ backL (s.data.toList.take n))) := by
  have hsz : s.data.toList.length = s.size := by simp
  induction n with
  | zero =>
    intro k l hk hn hl
    obtain ⟨k, rfl⟩ : ∃ m, k = m + 1 := ⟨k - 1, by omega⟩
    simp only [impl_BackOf.l0]
    rw [if_neg (by omega)]
    simp [backL]
  | succ n ih =>
    intro k l hk hn hl
    obtain ⟨k, rfl⟩ : ∃ m, k = m + 1 := ⟨k - 1, by omega⟩
    simp only [impl_BackOf.l0]
    have e : ((n + 1 : Nat) : Int) - 1 = (n : Int) := by omega
    have hn1 : n < s.data.toList.length := by omega
    have hb' : bt s (n : Int) = (s.data.toList[n].toNat : Int) := bt_get s (n : Int) (by omega) (by omega)
    rw [e, if_pos (by omega), if_pos (by omega), if_pos (by omega), hb', impl_backMove_ev, w64 (by omega), backL_take _ _ hn1]
    simp only [Option.bind_some]
    rw [if_pos (by rw [ofL_size, ofL_size]; simp; omega), ofL_app, ih k _ (by omega) (by omega) (by simp; omega)]
    simp
theorem impl_BackOf_ev (k : Nat) (s : ByteArray) (hk : 60 ≤ k) : impl_BackOf.f k s = some (if Dn s then ofL (backL s.data.toList) else ofL []) := by
  have e0 : (⟨#[]⟩ : ByteArray) = ofL [] := rfl
  have hsz : s.data.toList.length = s.size := by simp
  unfold impl_BackOf.f
  rw [impl_isDance_ev]
  simp only [Option.bind_some, decide_eq_true_eq]
  by_cases h : Dn s
  · have h40 := h.2
    rw [if_pos h, if_pos h, e0, w64 (by omega), impl_BackOf_l0 s h40 s.size k [] (by omega) (by omega) (by simp; omega), List.take_of_length_le (by omega)]
    simp
  · rw [if_neg h, if_neg h]; rfl
def dR (o : Option (Int × Int)) : Int × Int × Bool := match o with | some f => (f.1, f.2, true) | none => (0, 0, false)
theorem pl_plusO (u d n : Int) : pl u d n = dR (plusO (u, d) n) := by
  unfold pl plusO
  by_cases h : Fr (u + n * d) d
  · rw [if_pos h, if_pos h]; rfl
  · rw [if_neg h, if_neg h]; rfl
theorem pt1 : Pt 1 ∧ Pt (-1) := by unfold Pt; omega
theorem mvO_84 (f : Int × Int) (c : UInt8) (h : (c.toNat : Int) = 84) : mvO f c = plusO f 1 := by rw [(u8_eq c 84 (by omega)).1 h]; exact mvO_T f
theorem mvO_116 (f : Int × Int) (c : UInt8) (h : (c.toNat : Int) = 116) : mvO f c = plusO f (-1) := by rw [(u8_eq c 116 (by omega)).1 h]; exact mvO_t f
theorem mvO_else (f : Int × Int) (c : UInt8) (h : ¬(c.toNat : Int) = 84) (h2 : ¬(c.toNat : Int) = 116) : mvO f c = some (ovr f) := by
  have g1 : ¬ c = 84 := fun x => h ((u8_eq c 84 (by omega)).2 x)
  have g2 : ¬ c = 116 := fun x => h2 ((u8_eq c 116 (by omega)).2 x)
  unfold mvO
  rw [if_neg g1, if_neg g2]
theorem impl_danced_l0 (s : ByteArray) (h40 : s.size ≤ 2000) (d : Nat) : ∀ (k : Nat) (i : Nat) (f : Int × Int), d + 1000010 ≤ k → i + d = s.size → Fr f.1 f.2 → impl_danced.l0 k s (s.size : Int) (i : Int) f.1 f.2 = some (dR (dnc f (s.data.toList.drop i))) := by
  have hsz : s.data.toList.length = s.size := by simp
  induction d with
  | zero =>
    intro k i f hk hd hf
    obtain ⟨k, rfl⟩ : ∃ m, k = m + 1 := ⟨k - 1, by omega⟩
    simp only [impl_danced.l0]
    rw [if_neg (by omega), List.drop_eq_nil_of_le (by omega)]; rfl
  | succ d ih =>
    intro k i f hk hd hf
    obtain ⟨k, rfl⟩ : ∃ m, k = m + 1 := ⟨k - 1, by omega⟩
    have hi : i < s.data.toList.length := by omega
    have hb' : bt s (i : Int) = (s.data.toList[i].toNat : Int) := bt_get s (i : Int) (by omega) (by omega)
    have e1 : ((i : Int) + 1) = ((i + 1 : Nat) : Int) := by omega
    simp only [impl_danced.l0]
    rw [if_pos (by omega), if_pos (by omega), if_pos (by omega), w64 (by omega), hb', e1, List.drop_eq_getElem_cons hi]
    generalize s.data.toList[i] = c
    show _ = some (dR ((mvO f c).bind fun g => dnc g (List.drop (i + 1) s.data.toList)))
    have tw : ∀ n : Int, Pt n → mvO f c = plusO f n → ((impl_plus.f k f.1 f.2 n).bind fun bt149 => (if bt149.2.2 = true then (impl_danced.l0 k s (s.size : Int) ((i + 1 : Nat) : Int) bt149.1 bt149.2.1) else (some (0, 0, false)))) = some (dR ((mvO f c).bind fun g => dnc g (List.drop (i + 1) s.data.toList))) := by
      intro n hn hm
      rw [impl_plus_ev k (by omega) f.1 f.2 n hf hn, pl_plusO, hm]
      cases hp : plusO (f.1, f.2) n with
      | none => rfl
      | some g => exact ih k (i + 1) g (by omega) (by omega) (plusO_fr hp).1
    by_cases c1 : (c.toNat : Int) = 84
    · rw [if_pos c1]; exact tw 1 pt1.1 (mvO_84 f c c1)
    · rw [if_neg c1]
      by_cases c2 : (c.toNat : Int) = 116
      · rw [if_pos c2]; exact tw (-1) pt1.2 (mvO_116 f c c2)
      · rw [if_neg c2, impl_lowest_over k (by omega) hf, mvO_else f c c1 c2]
        exact ih k (i + 1) (ovr f) (by omega) (by omega) hf.over
theorem impl_danced_ev (k : Nat) (hk : 1002100 ≤ k) (u d : Int) (s : ByteArray) (h40 : s.size ≤ 2000) (hf : Fr u d) : impl_danced.f k u d s = some (dR (dnc (u, d) s.data.toList)) :=
  impl_danced_l0 s h40 s.size k 0 (u, d) (by omega) (by omega) hf
theorem impl_DancedOf_ev (k : Nat) (hk : 1002100 ≤ k) (s : ByteArray) : impl_DancedOf.f k s = some (if Dn s then dR (dnc (0, 1) s.data.toList) else (0, 0, false)) := by
  unfold impl_DancedOf.f
  rw [impl_isDance_ev]
  simp only [Option.bind_some, decide_eq_true_eq]
  by_cases h : Dn s
  · rw [if_pos h, if_pos h, impl_danced_ev k hk 0 1 s (by have := h.2; omega) (by decide)]; rfl
  · rw [if_neg h, if_neg h]
def mvM (c : UInt8) : Int × Int × Int × Int := if c = 84 then (1, 1, 0, 1) else if c = 116 then (1, -1, 0, 1) else (0, -1, 1, 0)
theorem mvM_mp (c : UInt8) : Mp (mvM c).1 (mvM c).2.1 (mvM c).2.2.1 (mvM c).2.2.2 := by
  unfold mvM
  split
  · show Mp 1 1 0 1; decide
  · split
    · show Mp 1 (-1) 0 1; decide
    · show Mp 0 (-1) 1 0; decide
def mapL : (Int × Int × Int × Int) → List UInt8 → Int × Int × Int × Int × Bool
  | m, [] => (m.1, m.2.1, m.2.2.1, m.2.2.2, true)
  | m, c :: l => if (bh m.1 m.2.1 m.2.2.1 m.2.2.2 (mvM c).1 (mvM c).2.1 (mvM c).2.2.1 (mvM c).2.2.2).2.2.2.2 = true then mapL ((bh m.1 m.2.1 m.2.2.1 m.2.2.2 (mvM c).1 (mvM c).2.1 (mvM c).2.2.1 (mvM c).2.2.2).1, (bh m.1 m.2.1 m.2.2.1 m.2.2.2 (mvM c).1 (mvM c).2.1 (mvM c).2.2.1 (mvM c).2.2.2).2.1, (bh m.1 m.2.1 m.2.2.1 m.2.2.2 (mvM c).1 (mvM c).2.1 (mvM c).2.2.1 (mvM c).2.2.2).2.2.1, (bh m.1 m.2.1 m.2.2.1 m.2.2.2 (mvM c).1 (mvM c).2.1 (mvM c).2.2.1 (mvM c).2.2.2).2.2.2.1) l else (0, 0, 0, 0, false)
theorem bh_mp {a b c d a' b' c' d' : Int} (h : (bh a b c d a' b' c' d').2.2.2.2 = true) : Mp (bh a b c d a' b' c' d').1 (bh a b c d a' b' c' d').2.1 (bh a b c d a' b' c' d').2.2.1 (bh a b c d a' b' c' d').2.2.2.1 := by
  rcases bh_or a b c d a' b' c' d' with ⟨A, B, C, D, e, hm⟩ | e
  · rw [e]; exact hm
  · rw [e] at h; cases h
theorem spec_l5Move_ev (c : UInt8) : spec_l5Move.f (c.toNat : Int) = some (mvM c) := by
  unfold spec_l5Move.f mvM
  have q1' : ((c.toNat : Int) = 84) ↔ c = 84 := u8_eq c 84 (by omega)
  have q2' : ((c.toNat : Int) = 116) ↔ c = 116 := u8_eq c 116 (by omega)
  by_cases c1 : c = 84
  · rw [if_pos (q1'.2 c1), if_pos c1]
  · rw [if_neg (fun x => c1 (q1'.1 x)), if_neg c1]
    by_cases c2 : c = 116
    · rw [if_pos (q2'.2 c2), if_pos c2]
    · rw [if_neg (fun x => c2 (q2'.1 x)), if_neg c2]
theorem spec_MapOf_l0 (s : ByteArray) (h40 : s.size ≤ 40) (d : Nat) : ∀ (k : Nat) (i : Nat) (m : Int × Int × Int × Int), d + 2 ≤ k → i + d = s.size → Mp m.1 m.2.1 m.2.2.1 m.2.2.2 → spec_MapOf.l0 k s (i : Int) m.1 m.2.1 m.2.2.1 m.2.2.2 = some (mapL m (s.data.toList.drop i)) := by
  have hsz : s.data.toList.length = s.size := by simp
  induction d with
  | zero =>
    intro k i m hk hd hm
    obtain ⟨k, rfl⟩ : ∃ m, k = m + 1 := ⟨k - 1, by omega⟩
    simp only [spec_MapOf.l0]
    rw [if_neg (by omega), List.drop_eq_nil_of_le (by omega)]; rfl
  | succ d ih =>
    intro k i m hk hd hm
    obtain ⟨k, rfl⟩ : ∃ m, k = m + 1 := ⟨k - 1, by omega⟩
    have hi : i < s.data.toList.length := by omega
    have hb' : bt s (i : Int) = (s.data.toList[i].toNat : Int) := bt_get s (i : Int) (by omega) (by omega)
    have e1 : ((i : Int) + 1) = ((i + 1 : Nat) : Int) := by omega
    simp only [spec_MapOf.l0]
    rw [if_pos (by omega), if_pos (by omega), w64 (by omega), hb', e1, List.drop_eq_getElem_cons hi, spec_l5Move_ev]
    generalize s.data.toList[i] = c
    simp only [Option.bind_some]
    have hp := mvM_mp c
    rw [spec_BehindOf_ev k (by omega), if_pos ⟨hm, hp⟩]
    simp only [Option.bind_some, mapL]
    split
    · rename_i h
      exact ih k (i + 1) (_, _, _, _) (by omega) (by omega) (bh_mp h)
    · rfl
theorem spec_MapOf_ev (k : Nat) (s : ByteArray) (hk : s.size + 100 ≤ k) (hn : s.size ≤ 1000000000) : spec_MapOf.f k s = some (if Dn s then mapL (1, 0, 0, 1) s.data.toList else (0, 0, 0, 0, false)) := by
  unfold spec_MapOf.f
  rw [spec_DanceOk_ev k s (by omega) hn]
  simp only [Option.bind_some, decide_eq_true_eq]
  by_cases h : Dn s
  · rw [if_pos h, if_pos h]
    exact spec_MapOf_l0 s h.2 s.size k 0 (1, 0, 0, 1) (by omega) (by omega) (by decide)
  · rw [if_neg h, if_neg h]
theorem impl_mapOf_l0 (s : ByteArray) (h40 : s.size ≤ 40) (d : Nat) : ∀ (k : Nat) (i : Nat) (m : Int × Int × Int × Int), d + 2 ≤ k → i + d = s.size → Mp m.1 m.2.1 m.2.2.1 m.2.2.2 → impl_mapOf.l0 k s (s.size : Int) (i : Int) m.1 m.2.1 m.2.2.1 m.2.2.2 = some (mapL m (s.data.toList.drop i)) := by
  have hsz : s.data.toList.length = s.size := by simp
  induction d with
  | zero =>
    intro k i m hk hd hm
    obtain ⟨k, rfl⟩ : ∃ m, k = m + 1 := ⟨k - 1, by omega⟩
    simp only [impl_mapOf.l0]
    rw [if_neg (by omega), List.drop_eq_nil_of_le (by omega)]; rfl
  | succ d ih =>
    intro k i m hk hd hm
    obtain ⟨k, rfl⟩ : ∃ m, k = m + 1 := ⟨k - 1, by omega⟩
    have hi : i < s.data.toList.length := by omega
    have hb' : bt s (i : Int) = (s.data.toList[i].toNat : Int) := bt_get s (i : Int) (by omega) (by omega)
    have e1 : ((i : Int) + 1) = ((i + 1 : Nat) : Int) := by omega
    simp only [impl_mapOf.l0]
    rw [if_pos (by omega), if_pos (by omega), if_pos (by omega), w64 (by omega), hb', e1, List.drop_eq_getElem_cons hi]
    generalize s.data.toList[i] = c
    have hp := mvM_mp c
    have st : ∀ A B C D : Int, mvM c = (A, B, C, D) → ((impl_behind.f k m.1 m.2.1 m.2.2.1 m.2.2.2 A B C D).bind fun x => (if x.2.2.2.2 = true then (impl_mapOf.l0 k s (s.size : Int) ((i + 1 : Nat) : Int) x.1 x.2.1 x.2.2.1 x.2.2.2.1) else (some (0, 0, 0, 0, false)))) = some (mapL m (c :: List.drop (i + 1) s.data.toList)) := by
      intro A B C D e
      simp only [mapL]
      rw [e] at hp ⊢
      rw [impl_behind_ev k (by omega) _ _ _ _ _ _ _ _ hm hp]
      simp only [Option.bind_some]
      split
      · rename_i h
        exact ih k (i + 1) (_, _, _, _) (by omega) (by omega) (bh_mp h)
      · rfl
    have q1' : ((c.toNat : Int) = 84) ↔ c = 84 := u8_eq c 84 (by omega)
    have q2' : ((c.toNat : Int) = 116) ↔ c = 116 := u8_eq c 116 (by omega)
    by_cases c1 : c = 84
    · rw [if_pos (q1'.2 c1)]; exact st _ _ _ _ (by unfold mvM; rw [if_pos c1])
    · rw [if_neg (fun x => c1 (q1'.1 x))]
      by_cases c2 : c = 116
      · rw [if_pos (q2'.2 c2)]; exact st _ _ _ _ (by unfold mvM; rw [if_neg c1, if_pos c2])
      · rw [if_neg (fun x => c2 (q2'.1 x))]; exact st _ _ _ _ (by unfold mvM; rw [if_neg c1, if_neg c2])
theorem impl_MapOf_ev (k : Nat) (s : ByteArray) (hk : 100 ≤ k) : impl_MapOf.f k s = some (if Dn s then mapL (1, 0, 0, 1) s.data.toList else (0, 0, 0, 0, false)) := by
  unfold impl_MapOf.f impl_mapOf.f
  rw [impl_isDance_ev]
  simp only [Option.bind_some, decide_eq_true_eq]
  by_cases h : Dn s
  · have := h.2
    have e := impl_mapOf_l0 s h.2 s.size k 0 (1, 0, 0, 1) (by omega) (by omega) (by decide)
    have e' : impl_mapOf.l0 k s (s.size : Int) 0 1 0 0 1 = some (mapL (1, 0, 0, 1) s.data.toList) := e
    rw [if_pos h, if_pos h, e']; rfl
  · rw [if_neg h, if_neg h]
def mm (x y : Int × Int × Int × Int) : Int × Int × Int × Int := (x.1 * y.1 + x.2.1 * y.2.2.1, x.1 * y.2.1 + x.2.1 * y.2.2.2, x.2.2.1 * y.1 + x.2.2.2 * y.2.2.1, x.2.2.1 * y.2.1 + x.2.2.2 * y.2.2.2)
def ng (x : Int × Int × Int × Int) : Int × Int × Int × Int := (-x.1, -x.2.1, -x.2.2.1, -x.2.2.2)
def mI : Int × Int × Int × Int := (1, 0, 0, 1)
theorem mm_assoc (x y z : Int × Int × Int × Int) : mm (mm x y) z = mm x (mm y z) := by
  obtain ⟨a, b, c, d⟩ := x
  obtain ⟨e, f, g, h⟩ := y
  obtain ⟨i, j, k, l⟩ := z
  simp only [mm, Prod.mk.injEq]
  refine ⟨by grind, by grind, by grind, by grind⟩
theorem mm_ng (x y : Int × Int × Int × Int) : mm (ng x) y = ng (mm x y) := by
  obtain ⟨a, b, c, d⟩ := x
  obtain ⟨e, f, g, h⟩ := y
  simp only [mm, ng, Prod.mk.injEq]
  refine ⟨by grind, by grind, by grind, by grind⟩
theorem mm_ng2 (x y : Int × Int × Int × Int) : mm x (ng y) = ng (mm x y) := by
  obtain ⟨a, b, c, d⟩ := x
  obtain ⟨e, f, g, h⟩ := y
  simp only [mm, ng, Prod.mk.injEq]
  refine ⟨by grind, by grind, by grind, by grind⟩
theorem ng_ng (x : Int × Int × Int × Int) : ng (ng x) = x := by
  obtain ⟨a, b, c, d⟩ := x
  simp only [ng, Prod.mk.injEq]
  omega
theorem mm_I (x : Int × Int × Int × Int) : mm x mI = x ∧ mm mI x = x := by
  obtain ⟨a, b, c, d⟩ := x
  simp only [mm, mI, Prod.mk.injEq]
  omega
def pm : (Int × Int × Int × Int) → List UInt8 → Int × Int × Int × Int
  | m, [] => m
  | m, c :: l => pm (mm (mvM c) m) l
theorem pm_app (l l' : List UInt8) : ∀ m, pm m (l ++ l') = pm (pm m l) l' := by
  induction l with
  | nil => intro m; rfl
  | cons c l ih => intro m; exact ih _
theorem pm_mul (l : List UInt8) : ∀ m, pm m l = mm (pm mI l) m := by
  induction l with
  | nil => intro m; exact ((mm_I m).2).symm
  | cons c l ih =>
    intro m
    show pm (mm (mvM c) m) l = mm (pm (mm (mvM c) mI) l) m
    rw [ih, ih (mm (mvM c) mI), (mm_I _).1, mm_assoc]
def sim (x y : Int × Int × Int × Int) : Prop := x = y ∨ x = ng y
theorem sim_ng {x y : Int × Int × Int × Int} (h : sim x y) : sim (ng x) y ∧ sim x (ng y) := by
  rcases h with h | h
  · rw [h]; exact ⟨Or.inr rfl, Or.inr (ng_ng y).symm⟩
  · rw [h]; exact ⟨Or.inl (ng_ng y), Or.inl rfl⟩
theorem sim_trans {x y z : Int × Int × Int × Int} (h : sim x y) (h2 : sim y z) : sim x z := by
  rcases h with h | h
  · rw [h]; exact h2
  · rw [h]; exact (sim_ng h2).1
theorem sim_mm {x y z w : Int × Int × Int × Int} (h : sim x y) (h2 : sim z w) : sim (mm x z) (mm y w) := by
  rcases h with h | h <;> rcases h2 with h2 | h2 <;> rw [h, h2]
  · exact Or.inl rfl
  · rw [mm_ng2]; exact Or.inr rfl
  · rw [mm_ng]; exact Or.inr rfl
  · rw [mm_ng, mm_ng2, ng_ng]; exact Or.inl rfl
theorem mvM_bk {c : UInt8} (h : mv c = true) : sim (mm (mvM (bk c)) (mvM c)) mI := by
  rcases mv_cases h with rfl | rfl | rfl
  · exact Or.inl (by decide)
  · exact Or.inl (by decide)
  · exact Or.inr (by decide)
theorem pm_back (l : List UInt8) (h : dok l = true) : sim (mm (pm mI (backL l)) (pm mI l)) mI := by
  induction l with
  | nil => exact Or.inl (by decide)
  | cons c l ih =>
    have h' : mv c = true ∧ dok l = true := by rw [dok_cons] at h; simpa using h
    have e1 : pm mI (backL (c :: l)) = mm (mvM (bk c)) (pm mI (backL l)) := by
      rw [backL_cons, pm_app]; rfl
    have e2 : pm mI (c :: l) = mm (pm mI l) (mvM c) := by
      show pm (mm (mvM c) mI) l = _
      rw [(mm_I _).1, pm_mul]
    rw [e1, e2, mm_assoc, ← mm_assoc (pm mI (backL l)), ]
    have s1 := sim_mm (Or.inl rfl : sim (mvM (bk c)) (mvM (bk c))) (sim_mm (ih h'.2) (Or.inl rfl : sim (mvM c) (mvM c)))
    rw [(mm_I (mvM c)).2] at s1
    exact sim_trans s1 (mvM_bk h'.1)
theorem bh_sim {m n r : Int × Int × Int × Int} (h : bh m.1 m.2.1 m.2.2.1 m.2.2.2 n.1 n.2.1 n.2.2.1 n.2.2.2 = (r.1, r.2.1, r.2.2.1, r.2.2.2, true)) : sim r (mm n m) := by
  unfold bh m5 at h
  split at h
  · have e : r = sgn5 (mm n m).1 (mm n m).2.1 (mm n m).2.2.1 (mm n m).2.2.2 := by
      simp only [Prod.mk.injEq] at h
      obtain ⟨h1, h2, h3, h4, _⟩ := h
      obtain ⟨r1, r2, r3, r4⟩ := r
      simp only at h1 h2 h3 h4
      rw [← h1, ← h2, ← h3, ← h4]
      rfl
    rw [e]
    unfold sgn5
    split
    · exact Or.inr rfl
    · exact Or.inl rfl
  · simp at h
theorem mapL_pm (l : List UInt8) : ∀ {m r : Int × Int × Int × Int}, mapL m l = (r.1, r.2.1, r.2.2.1, r.2.2.2, true) → sim r (pm m l) := by
  induction l with
  | nil =>
    intro m r h
    have : m = r := by
      simp only [mapL, Prod.mk.injEq] at h
      obtain ⟨h1, h2, h3, h4, _⟩ := h
      obtain ⟨r1, r2, r3, r4⟩ := r
      obtain ⟨m1, m2, m3, m4⟩ := m
      simp only at h1 h2 h3 h4
      rw [h1, h2, h3, h4]
    rw [this]; exact Or.inl rfl
  | cons c l ih =>
    intro m r h
    simp only [mapL] at h
    split at h
    · rename_i hok
      have s1 := ih h
      generalize hb : bh m.1 m.2.1 m.2.2.1 m.2.2.2 (mvM c).1 (mvM c).2.1 (mvM c).2.2.1 (mvM c).2.2.2 = b at hok s1
      obtain ⟨b1, b2, b3, b4, b5⟩ := b
      simp only at hok s1
      rw [hok] at hb
      have s2 : sim (b1, b2, b3, b4) (mm (mvM c) m) := bh_sim (m := m) (n := mvM c) (r := (b1, b2, b3, b4)) hb
      rw [pm_mul] at s1
      show sim r (pm (mm (mvM c) m) l)
      rw [pm_mul]
      exact sim_trans s1 (sim_mm (Or.inl rfl) s2)
    · simp at h
theorem mapL_mp (l : List UInt8) : ∀ {m r : Int × Int × Int × Int}, Mp m.1 m.2.1 m.2.2.1 m.2.2.2 → mapL m l = (r.1, r.2.1, r.2.2.1, r.2.2.2, true) → Mp r.1 r.2.1 r.2.2.1 r.2.2.2 := by
  induction l with
  | nil =>
    intro m r hm h
    simp only [mapL, Prod.mk.injEq] at h
    obtain ⟨h1, h2, h3, h4, _⟩ := h
    rw [← h1, ← h2, ← h3, ← h4]; exact hm
  | cons c l ih =>
    intro m r hm h
    simp only [mapL] at h
    split at h
    · rename_i hok
      exact ih (m := (_, _, _, _)) (bh_mp hok) h
    · simp at h
theorem bh_I {m n : Int × Int × Int × Int} (h : sim (mm n m) mI) : bh m.1 m.2.1 m.2.2.1 m.2.2.2 n.1 n.2.1 n.2.2.1 n.2.2.2 = (1, 0, 0, 1, true) := by
  have e : bh m.1 m.2.1 m.2.2.1 m.2.2.2 n.1 n.2.1 n.2.2.1 n.2.2.2 = m5 (sgn5 (mm n m).1 (mm n m).2.1 (mm n m).2.2.1 (mm n m).2.2.2) := rfl
  rw [e]
  rcases h with h | h
  · rw [h]; decide
  · rw [h]; decide
-- the fraction that a map leads 0 to
def nrm (b d : Int) : Int × Int := if d < 0 ∨ (d = 0 ∧ b < 0) then (-b, -d) else (b, d)
theorem mvT_nrm (b d : Int) (hg : Int.gcd b d = 1) (c : UInt8) (a e : Int) : mvT (nrm b d) c = nrm (mm (mvM c) (a, b, e, d)).2.1 (mm (mvM c) (a, b, e, d)).2.2.2 := by
  have hb0 : d = 0 → b = 1 ∨ b = -1 := by
    intro h; rw [h, Int.gcd_zero] at hg; omega
  have hd0 : b = 0 → d = 1 ∨ d = -1 := by
    intro h; rw [h, Int.zero_gcd] at hg; omega
  clear hg
  unfold mvT mvM
  by_cases c1 : c = 84
  · rw [if_pos c1, if_pos c1]
    have e1 : (mm (1, 1, 0, 1) (a, b, e, d)).2.1 = b + d := by simp [mm]
    have e2 : (mm (1, 1, 0, 1) (a, b, e, d)).2.2.2 = d := by simp [mm]
    rw [e1, e2]
    unfold nrm
    by_cases q : d < 0 ∨ (d = 0 ∧ b < 0)
    · rw [if_pos q]
      rw [if_pos (by omega)]
      apply Prod.ext <;> dsimp only <;> omega
    · rw [if_neg q]
      rw [if_neg (by omega)]
  · rw [if_neg c1, if_neg c1]
    by_cases c2 : c = 116
    · rw [if_pos c2, if_pos c2]
      have e1 : (mm (1, -1, 0, 1) (a, b, e, d)).2.1 = b - d := by simp [mm]; omega
      have e2 : (mm (1, -1, 0, 1) (a, b, e, d)).2.2.2 = d := by simp [mm]
      rw [e1, e2]
      unfold nrm
      by_cases q : d < 0 ∨ (d = 0 ∧ b < 0)
      · rw [if_pos q]
        rw [if_pos (by omega)]
        apply Prod.ext <;> dsimp only <;> omega
      · rw [if_neg q]
        rw [if_neg (by omega)]
    · rw [if_neg c2, if_neg c2]
      have e1 : (mm (0, -1, 1, 0) (a, b, e, d)).2.1 = -d := by simp [mm]
      have e2 : (mm (0, -1, 1, 0) (a, b, e, d)).2.2.2 = b := by simp [mm]
      rw [e1, e2]
      unfold nrm ovr ovU ovD
      by_cases q : d < 0 ∨ (d = 0 ∧ b < 0)
      · simp only [if_pos q]
        split <;> split <;> apply Prod.ext <;> dsimp only <;> omega
      · simp only [if_neg q]
        split <;> split <;> apply Prod.ext <;> dsimp only <;> omega
theorem mp_gcd {a b c d : Int} (h : Mp a b c d) : Int.gcd b d = 1 := by
  have hd := h.2.2.2.2.1
  have h1 : (Int.gcd b d : Int) ∣ 1 := by
    rw [← hd]
    exact Int.dvd_sub (Int.dvd_trans (gcd_dvd b d).2 (Int.dvd_mul_left a d)) (Int.dvd_trans (gcd_dvd b d).1 (Int.dvd_mul_right b c))
  have := Int.le_of_dvd (by omega) h1
  have hp : Int.gcd b d ≠ 0 := by
    intro h0
    rw [h0] at h1
    have := Int.zero_dvd.1 h1
    omega
  omega
theorem nrm_ng (b d : Int) (h : ¬(b = 0 ∧ d = 0)) : nrm (-b) (-d) = nrm b d := by
  unfold nrm
  split <;> split <;> apply Prod.ext <;> dsimp only <;> omega
theorem mapL_tot (l : List UInt8) : ∀ {m r : Int × Int × Int × Int}, Mp m.1 m.2.1 m.2.2.1 m.2.2.2 → mapL m l = (r.1, r.2.1, r.2.2.1, r.2.2.2, true) → nrm r.2.1 r.2.2.2 = totL (nrm m.2.1 m.2.2.2) l := by
  induction l with
  | nil =>
    intro m r hm h
    simp only [mapL, Prod.mk.injEq] at h
    obtain ⟨h1, h2, h3, h4, _⟩ := h
    rw [← h2, ← h4]; rfl
  | cons c l ih =>
    intro m r hm h
    simp only [mapL] at h
    split at h
    · rename_i hok
      have q := ih (m := (_, _, _, _)) (bh_mp hok) h
      generalize hb : bh m.1 m.2.1 m.2.2.1 m.2.2.2 (mvM c).1 (mvM c).2.1 (mvM c).2.2.1 (mvM c).2.2.2 = b at hok q
      obtain ⟨b1, b2, b3, b4, b5⟩ := b
      simp only at hok q
      have hmp : Mp b1 b2 b3 b4 := by
        have := bh_mp (a := m.1) (b := m.2.1) (c := m.2.2.1) (d := m.2.2.2) (a' := (mvM c).1) (b' := (mvM c).2.1) (c' := (mvM c).2.2.1) (d' := (mvM c).2.2.2) (by rw [hb]; exact hok)
        rw [hb] at this; exact this
      rw [hok] at hb
      have s2 : sim (b1, b2, b3, b4) (mm (mvM c) m) := bh_sim (m := m) (n := mvM c) (r := (b1, b2, b3, b4)) hb
      rw [q]
      show totL (nrm b2 b4) l = totL (mvT (nrm m.2.1 m.2.2.2) c) l
      rw [mvT_nrm m.2.1 m.2.2.2 (mp_gcd hm) c m.1 m.2.2.1]
      have e : (m.1, m.2.1, m.2.2.1, m.2.2.2) = m := rfl
      rw [e]
      have hg := mp_gcd hmp
      have hne : ¬(b2 = 0 ∧ b4 = 0) := by
        intro x
        rw [x.1, x.2] at hg
        exact absurd hg (by decide)
      rcases s2 with s2 | s2
      · rw [← s2]
      · have e2 : mm (mvM c) m = ng (b1, b2, b3, b4) := by rw [s2, ng_ng]
        rw [e2]
        show _ = totL (nrm (-b2) (-b4)) l
        rw [nrm_ng b2 b4 hne]
    · simp at h
theorem mapL_no (l : List UInt8) : ∀ {m : Int × Int × Int × Int}, ¬(mapL m l).2.2.2.2 = true → mapL m l = (0, 0, 0, 0, false) := by
  induction l with
  | nil => intro m h; exact absurd rfl h
  | cons c l ih =>
    intro m h
    simp only [mapL] at h ⊢
    split
    · rename_i hok
      rw [if_pos hok] at h
      exact ih h
    · rfl
theorem FnMapOf (l0 : List Int) (hw : ∀ x ∈ l0, (Lit.int .u8 x).wf = true) : ∃ k, laws_FnMapOf.f k l0 = some true := by
  refine ⟨3000001, ?_⟩
  unfold laws_FnMapOf.f
  by_cases h : (l0.length : Int) > 1048576
  · rw [if_pos h]
  · rw [if_neg h]
    unfold spec_DrawMapOf.f
    obtain ⟨m, e, hm⟩ := open_ev l0 hw
    obtain ⟨s, p', e2, _, _, hs⟩ := dance_ev 3000001 m hm 0 20 9 (by decide) (by omega) (by omega) (by omega)
    have hs' : s.size ≤ 2000 := by have : (20 : Int).toNat = 20 := rfl; omega
    rw [e]
    simp only [Option.bind_some]
    rw [e2]
    simp only [Option.bind_some]
    rw [impl_MapOf_ev _ s (by omega), spec_MapOf_ev _ s (by omega) (by omega)]
    simp only [Option.bind_some]
    rw [if_neg (by simp)]
    rw [show ∀ x : Bool, (x != x) = false from fun x => by cases x <;> rfl]
    simp only [laws_FnMapOf.j0]
    rw [if_neg (by simp)]
    have no : ∀ r : Int × Int × Int × Int × Bool, r = (0, 0, 0, 0, false) → (if r.2.2.2.2 = true then (none : Option Bool) else (if (r.1 == 0 && (r.2.1 == 0 && (r.2.2.1 == 0 && (r.2.2.2.1 == 0)))) = true then ((laws_alive.f 3000000).bind fun t272 => (some t272)) else (some false))) = some true := by
      intro r hr
      rw [hr, alive_ev _ (by omega)]; rfl
    by_cases hD : Dn s
    · rw [if_pos hD]
      by_cases hok : (mapL (1, 0, 0, 1) s.data.toList).2.2.2.2 = true
      · rw [if_pos hok]
        obtain ⟨r, hr⟩ : ∃ r : Int × Int × Int × Int, mapL (1, 0, 0, 1) s.data.toList = (r.1, r.2.1, r.2.2.1, r.2.2.2, true) := by
          generalize mapL (1, 0, 0, 1) s.data.toList = q at hok
          obtain ⟨q1, q2, q3, q4, q5⟩ := q
          simp only at hok
          exact ⟨(q1, q2, q3, q4), by rw [hok]⟩
        have hmp := mapL_mp s.data.toList (m := (1, 0, 0, 1)) (by decide) hr
        have hsz : s.data.toList.length = s.size := by simp
        have hD' : Dn (ofL (backL s.data.toList)) := ⟨by rw [ofL_data]; exact dok_backL _ hD.1, by rw [ofL_size, backL_len, hsz]; exact hD.2⟩
        rw [hr]
        simp only
        rw [impl_DancedOf_ev _ (by omega), impl_LedBy_ev _ (by omega), impl_BackOf_ev _ s (by omega), if_pos hD, if_pos hD]
        simp only [Option.bind_some]
        rw [impl_MapOf_ev _ _ (by omega), if_pos hD', ofL_data, impl_MapOk_ev, decide_eq_true hmp]
        simp only [Option.bind_some]
        rw [impl_BehindOf_ev _ (by omega)]
        simp only [Option.bind_some]
        rw [if_pos trivial]
        have tl : ∀ x : Int × Int × Int × Int × Bool, x = mapL (1, 0, 0, 1) (backL s.data.toList) → (if x.2.2.2.2 = true then (if (if Mp r.1 r.2.1 r.2.2.1 r.2.2.2 ∧ Mp x.1 x.2.1 x.2.2.1 x.2.2.2.1 then bh r.1 r.2.1 r.2.2.1 r.2.2.2 x.1 x.2.1 x.2.2.1 x.2.2.2.1 else (0, 0, 0, 0, false)).2.2.2.2 = true then some ((if Mp r.1 r.2.1 r.2.2.1 r.2.2.2 ∧ Mp x.1 x.2.1 x.2.2.1 x.2.2.2.1 then bh r.1 r.2.1 r.2.2.1 r.2.2.2 x.1 x.2.1 x.2.2.1 x.2.2.2.1 else (0, 0, 0, 0, false)).1 == 1 && ((if Mp r.1 r.2.1 r.2.2.1 r.2.2.2 ∧ Mp x.1 x.2.1 x.2.2.1 x.2.2.2.1 then bh r.1 r.2.1 r.2.2.1 r.2.2.2 x.1 x.2.1 x.2.2.1 x.2.2.2.1 else (0, 0, 0, 0, false)).2.1 == 0 && ((if Mp r.1 r.2.1 r.2.2.1 r.2.2.2 ∧ Mp x.1 x.2.1 x.2.2.1 x.2.2.2.1 then bh r.1 r.2.1 r.2.2.1 r.2.2.2 x.1 x.2.1 x.2.2.1 x.2.2.2.1 else (0, 0, 0, 0, false)).2.2.1 == 0 && ((if Mp r.1 r.2.1 r.2.2.1 r.2.2.2 ∧ Mp x.1 x.2.1 x.2.2.1 x.2.2.2.1 then bh r.1 r.2.1 r.2.2.1 r.2.2.2 x.1 x.2.1 x.2.2.1 x.2.2.2.1 else (0, 0, 0, 0, false)).2.2.2.1 == 1)))) else some false) else some true) = some true := by
          intro x hx
          split
          · rename_i hxo
            obtain ⟨x1, x2, x3, x4, x5⟩ := x
            simp only at hxo ⊢
            rw [hxo] at hx
            have hx' : mapL (1, 0, 0, 1) (backL s.data.toList) = (((x1, x2, x3, x4) : Int × Int × Int × Int).1, ((x1, x2, x3, x4) : Int × Int × Int × Int).2.1, ((x1, x2, x3, x4) : Int × Int × Int × Int).2.2.1, ((x1, x2, x3, x4) : Int × Int × Int × Int).2.2.2, true) := hx.symm
            have hmx := mapL_mp (backL s.data.toList) (m := (1, 0, 0, 1)) (by decide) hx'
            have hy : Mp r.1 r.2.1 r.2.2.1 r.2.2.2 ∧ Mp x1 x2 x3 x4 := ⟨hmp, hmx⟩
            have s1 := mapL_pm s.data.toList hr
            have s2 := mapL_pm (backL s.data.toList) hx'
            have s3 := sim_trans (sim_mm s2 s1) (pm_back s.data.toList hD.1)
            have hb := bh_I (m := r) (n := (x1, x2, x3, x4)) s3
            simp only at hb
            rw [if_pos hy, hb]
            rfl
          · rfl
        have tl' := tl _ rfl
        have el : ∀ p q : Int × Int × Bool, (p.2.2 = true → q.2.2 = true → p.1 = q.1 ∧ p.2.1 = q.2.1) → ∀ z : Option Bool, z = some true → (if p.2.2 = true then (if q.2.2 = true then (if (p.1 == q.1 && (p.2.1 == q.2.1)) = true then z else (some false)) else z) else z) = some true := by
          intro p q hpq z hz
          rw [hz]
          split
          · rename_i h1
            split
            · rename_i h2
              obtain ⟨a1, a2⟩ := hpq h1 h2
              rw [a1, a2]; simp
            · rfl
          · rfl
        refine el _ _ ?_ _ tl'
        intro h1 h2
        cases hg : dnc (0, 1) s.data.toList with
        | none => rw [hg] at h1; cases h1
        | some g =>
          have ht := dnc_tot _ hg
          have hn := mapL_tot s.data.toList (m := (1, 0, 0, 1)) (by decide) hr
          have hn' : nrm r.2.1 r.2.2.2 = totL (0, 1) s.data.toList := hn
          rw [← ht] at hn'
          have lo := low_one (mp_gcd hmp)
          have hF : Fr 0 1 := by decide
          have hy : Mp r.1 r.2.1 r.2.2.1 r.2.2.2 ∧ Fr 0 1 := ⟨hmp, hF⟩
          rw [if_pos hy] at h2 ⊢
          unfold led at h2 ⊢
          have z1 : r.1 * 0 + r.2.1 * 1 = r.2.1 := by omega
          have z2 : r.2.2.1 * 0 + r.2.2.2 * 1 = r.2.2.2 := by omega
          rw [z1, z2] at h2 ⊢
          split at h2
          · rename_i hc
            rw [if_pos hc, lo.1, lo.2]
            have eg : g = ((if r.2.2.2 < 0 ∨ (r.2.2.2 = 0 ∧ r.2.1 < 0) then -r.2.1 else r.2.1), (if r.2.2.2 < 0 ∨ (r.2.2.2 = 0 ∧ r.2.1 < 0) then -r.2.2.2 else r.2.2.2)) := by
              rw [← hn']
              unfold nrm
              split <;> rfl
            constructor
            · show g.1 = _; rw [eg]
            · show g.2 = _; rw [eg]
          · cases h2
      · rw [mapL_no _ hok]
        simp [alive_ev]
    · rw [if_neg hD]
      simp [alive_ev]
end Go.Proofs.YtcahmfhlmclgkaaDoor.Pure
