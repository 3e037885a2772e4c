/- What the walked law FnDancedFrom computes, answers true. -/
import Derived.Test.YtcahmfhlmclgkaaDoorCFnDancedFrom
import Derived.OpenShut
namespace Go.Proofs.YtcahmfhlmclgkaaDoor.Pure
open Go.RowKit Go.Proofs.YtcahmfhlmclgkaaDoor.PFnDancedFrom Go.Proofs.YtcahmfhlmclgkaaDoorW.PrintWords Go.Proofs.YtcahmfhlmclgkaaDoorW.PrintLast Go.Proofs.YtcahmfhlmclgkaaDoorW.PrintMore
set_option linter.unusedVariables false
set_option linter.unusedSimpArgs false
theorem st {P : Prop} [Decidable P] (h : P) : some true = some (decide P) := by simp [h]
theorem sf {P : Prop} [Decidable P] (h : ¬P) : some false = some (decide P) := by simp [h]
theorem sd {P Q : Prop} [Decidable P] [Decidable Q] (h : P ↔ Q) : some (decide P) = some (decide Q) := by simp [h]
theorem w64 {n : Int} (h : -9223372036854775808 ≤ n ∧ n ≤ 9223372036854775807) : wrap64 n = n := by unfold wrap64; omega
def Fr (u d : Int) : Prop := -1000000 ≤ u ∧ u ≤ 1000000 ∧ 0 ≤ d ∧ d ≤ 1000000 ∧ (d = 0 → u = 1) ∧ (Int.gcd u d = 1)
instance (u d : Int) : Decidable (Fr u d) := by unfold Fr; exact inferInstance
def Pt (n : Int) : Prop := -1000000 ≤ n ∧ n ≤ 1000000
instance (n : Int) : Decidable (Pt n) := by unfold Pt; exact inferInstance
theorem gcd_step (a b : Int) : Int.gcd b (Int.tmod a b) = Int.gcd a b := by
  unfold Int.gcd
  rw [Int.natAbs_tmod, Nat.gcd_comm a.natAbs b.natAbs, Nat.gcd_rec b.natAbs a.natAbs, Nat.gcd_comm]
theorem tmod_lt (a b : Int) (h : b ≠ 0) : (Int.tmod a b).natAbs < b.natAbs := by
  rw [Int.natAbs_tmod]
  exact Nat.mod_lt _ (by omega)
theorem tdiv_le (a b : Int) : (Int.tdiv a b).natAbs ≤ a.natAbs := by
  rw [Int.natAbs_tdiv]
  exact Nat.div_le_self _ _
theorem tdiv_w (a b : Int) (h : -1000000 ≤ a ∧ a ≤ 1000000) : wrap64 (Int.tdiv a b) = Int.tdiv a b := by
  have := tdiv_le a b
  exact w64 (by omega)
theorem gcd_le_pt (a b : Int) (ha : Pt a) (hb : Pt b) : (Int.gcd a b : Int) ≤ 1000000 := by
  unfold Pt at ha hb
  by_cases h : a = 0
  · subst h
    rw [Int.zero_gcd]
    omega
  · have := Int.gcd_le_natAbs_left b h
    omega
theorem gcd_pos (a b : Int) (h : ¬(a = 0 ∧ b = 0)) : 0 < Int.gcd a b := by
  rcases Nat.eq_zero_or_pos (Int.gcd a b) with h' | h'
  · exact absurd (Int.gcd_eq_zero_iff.mp h') h
  · exact h'
def sg (u d : Int) : Int := if d < 0 ∨ (d = 0 ∧ u < 0) then -(Int.gcd u d : Int) else (Int.gcd u d : Int)
def lowU (u d : Int) : Int := Int.tdiv u (sg u d)
def lowD (u d : Int) : Int := Int.tdiv d (sg u d)
theorem mulb {a b : Int} (ha : Pt a) (hb : Pt b) : -1000000000000 ≤ a * b ∧ a * b ≤ 1000000000000 := by
  unfold Pt at ha hb
  have h1 : a.natAbs ≤ 1000000 := by omega
  have h2 : b.natAbs ≤ 1000000 := by omega
  have := Nat.mul_le_mul h1 h2
  rw [← Int.natAbs_mul] at this
  omega
theorem wmul {a b : Int} (ha : Pt a) (hb : Pt b) : wrap64 (a * b) = a * b := by
  have := mulb ha hb
  exact w64 (by omega)
theorem Fr.pu {u d : Int} (h : Fr u d) : Pt u := ⟨h.1, h.2.1⟩
theorem Fr.pd {u d : Int} (h : Fr u d) : Pt d := by unfold Fr at h; unfold Pt; omega
theorem Fr.ne {u d : Int} (h : Fr u d) : ¬(-d = 0 ∧ u = 0) := by
  unfold Fr at h; omega
theorem Fr.wn {u d : Int} (h : Fr u d) : wrap64 (-d) = -d := by
  unfold Fr at h; exact w64 (by omega)
theorem Fr.pn {u d : Int} (h : Fr u d) : Pt (-d) := by
  unfold Fr at h; unfold Pt; omega
def ovU (u d : Int) : Int := if u ≤ 0 then d else -d
def ovD (u : Int) : Int := if u ≤ 0 then -u else u
theorem low_one {u d : Int} (h : Int.gcd u d = 1) : lowU u d = (if d < 0 ∨ (d = 0 ∧ u < 0) then -u else u) ∧ lowD u d = (if d < 0 ∨ (d = 0 ∧ u < 0) then -d else d) := by
  unfold lowU lowD sg
  rw [h]
  split
  · simp
  · simp
theorem low_over {u d : Int} (h : Fr u d) : lowU (-d) u = ovU u d ∧ lowD (-d) u = ovD u := by
  have hg : Int.gcd (-d) u = 1 := by rw [Int.neg_gcd, Int.gcd_comm]; exact h.2.2.2.2.2
  obtain ⟨e1, e2⟩ := low_one hg
  rw [e1, e2]
  unfold Fr at h
  unfold ovU ovD
  by_cases h1 : u < 0
  · rw [if_pos (Or.inl h1), if_pos (Or.inl h1), if_pos (by omega), if_pos (by omega)]; omega
  · by_cases h2 : u = 0
    · have : d = 1 ∨ d ≠ 1 := by omega
      have hd : 0 < d := by omega
      rw [if_pos (Or.inr ⟨h2, by omega⟩), if_pos (Or.inr ⟨h2, by omega⟩), if_pos (by omega), if_pos (by omega)]; omega
    · rw [if_neg (by omega), if_neg (by omega), if_neg (by omega), if_neg (by omega)]; omega
theorem Fr.over {u d : Int} (h : Fr u d) : Fr (ovU u d) (ovD u) := by
  have hn := h.ne
  have hg := h.2.2.2.2.2
  have hc : Int.gcd d u = 1 := by rw [Int.gcd_comm]; exact hg
  unfold Fr at h
  unfold ovU ovD
  by_cases h1 : u ≤ 0
  · rw [if_pos h1, if_pos h1]
    exact ⟨by omega, by omega, by omega, by omega, fun x => by
      have hu : u = 0 := by omega
      subst hu
      rw [Int.gcd_zero_right] at hc
      omega, by rw [Int.gcd_neg]; exact hc⟩
  · rw [if_neg h1, if_neg h1]
    exact ⟨by omega, by omega, by omega, by omega, by omega, by rw [Int.neg_gcd]; exact hc⟩
def pl (u d n : Int) : Int × Int × Bool := if Fr (u + n * d) d then (u + n * d, d, true) else (0, 0, false)
theorem wplus {u d n : Int} (hu : Pt u) (hd : Pt d) (hn : Pt n) : wrap64 (u + wrap64 (n * d)) = u + n * d := by
  have := mulb hn hd
  rw [wmul hn hd]
  unfold Pt at hu
  exact w64 (by omega)
theorem over_over {u d : Int} (h : Fr u d) : ovU (ovU u d) (ovD u) = u ∧ ovD (ovU u d) = d := by
  have hg := h.2.2.2.2.2
  unfold Fr at h
  unfold ovU ovD
  by_cases h1 : u ≤ 0
  · simp only [if_pos h1]
    by_cases h2 : d ≤ 0
    · have : u = 1 := h.2.2.2.2.1 (by omega)
      omega
    · rw [if_neg h2, if_neg h2]; omega
  · simp only [if_neg h1]
    rw [if_pos (by omega), if_pos (by omega)]; omega
def t2 (n : Int) : Bool := decide (2 ≤ n ∧ n ≤ 60)
def ofL (l : List UInt8) : ByteArray := ⟨l.toArray⟩
theorem ofL_size (l : List UInt8) : (ofL l).size = l.length := by simp [ofL, ByteArray.size]
theorem ofL_app (l m : List UInt8) : ofL l ++ ofL m = ofL (l ++ m) := by
  apply ByteArray.ext; simp [ofL]
theorem ofL_data (l : List UInt8) : (ofL l).data.toList = l := by simp [ofL]
theorem bt_get (s : ByteArray) (i : Int) (h0 : 0 ≤ i) (h : i.toNat < s.size) : bt s i = (s.data.toList[i.toNat]'(by simpa using h)).toNat := by
  unfold bt
  rw [dif_pos h]
  rfl
def mv (c : UInt8) : Bool := c == 84 || c == 116 || c == 82
def dok (l : List UInt8) : Bool := l.all mv
theorem mv_iff (c : UInt8) : mv c = true ↔ ((c.toNat : Int) = 84 ∨ (c.toNat : Int) = 116 ∨ (c.toNat : Int) = 82) := by
  unfold mv
  simp only [Bool.or_eq_true, beq_iff_eq]
  have e1 : (84 : UInt8).toNat = 84 := rfl
  have e2 : (116 : UInt8).toNat = 116 := rfl
  have e3 : (82 : UInt8).toNat = 82 := rfl
  rw [← UInt8.toNat_inj, ← UInt8.toNat_inj, ← UInt8.toNat_inj, e1, e2, e3]
  omega
def Dn (s : ByteArray) : Prop := dok s.data.toList = true ∧ s.size ≤ 40
instance (s : ByteArray) : Decidable (Dn s) := by unfold Dn; exact inferInstance
def bk (c : UInt8) : UInt8 := if c = 84 then 116 else if c = 116 then 84 else 82
def backL (l : List UInt8) : List UInt8 := (l.reverse).map bk
theorem u8_eq (c : UInt8) (n : Nat) (hn : n < 256) : ((c.toNat : Int) = (n : Int)) ↔ c = UInt8.ofNat n := by
  constructor
  · intro h
    have : c.toNat = n := by omega
    rw [← UInt8.toNat_inj, this]
    simp
    omega
  · intro h
    rw [h]
    simp
    omega
theorem backL_take (s : List UInt8) (n : Nat) (h : n < s.length) : backL (s.take (n + 1)) = bk s[n] :: backL (s.take n) := by
  unfold backL
  rw [List.take_succ_eq_append_getElem h, List.reverse_append]
  simp
theorem backL_len (l : List UInt8) : (backL l).length = l.length := by simp [backL]
theorem impl_isPart_ev (n : Int) : impl_isPart.f n = some (decide (Pt n)) := by
  unfold impl_isPart.f Pt
  split
  · exact sd (by omega)
  · exact sf (by omega)
theorem spec_l1In_ev (n a b : Int) : spec_l1In.f n a b = some (decide (a ≤ n ∧ n ≤ b)) := by
  unfold spec_l1In.f
  split
  · exact sd (by omega)
  · exact sf (by omega)
theorem impl_gcd_l0 (n : Nat) : ∀ (k : Nat) (a b : Int), b.natAbs ≤ n → n < k → a.natAbs ≤ 4611686018427387904 → b.natAbs ≤ 4611686018427387904 → impl_gcd.l0 k a b = some (Int.gcd a b : Int) := by
  induction n with
  | zero =>
    intro k a b hb hk ha _
    obtain ⟨k, rfl⟩ : ∃ m, k = m + 1 := ⟨k - 1, by omega⟩
    have hb0 : b = 0 := by omega
    simp only [impl_gcd.l0]
    rw [if_pos hb0, w64 (by omega), hb0, Int.gcd_zero_right]
    unfold mx; congr 1; split <;> omega
  | succ n ih =>
    intro k a b hb hk ha hb'
    obtain ⟨k, rfl⟩ : ∃ m, k = m + 1 := ⟨k - 1, by omega⟩
    simp only [impl_gcd.l0]
    by_cases h : b = 0
    · rw [if_pos h, w64 (by omega), h, Int.gcd_zero_right]
      unfold mx; congr 1; split <;> omega
    · rw [if_neg h]
      have := tmod_lt a b h
      rw [ih k b (Int.tmod a b) (by omega) (by omega) (by omega) (by omega), gcd_step]
theorem impl_gcd_ev (k : Nat) (hk : 1000002 ≤ k) (a b : Int) (ha : Pt a) (hb : Pt b) : impl_gcd.f k a b = some (Int.gcd a b : Int) := by
  unfold Pt at ha hb
  exact impl_gcd_l0 1000001 k a b (by omega) (by omega) (by omega) (by omega)
theorem spec_l1Common_l0 (n : Nat) : ∀ (k : Nat) (a b : Int), 0 ≤ a → 0 ≤ b → b.natAbs ≤ n → n < k → spec_l1Common.l0 k a b = some (Int.gcd a b : Int) := by
  induction n with
  | zero =>
    intro k a b ha hb0 hb hk
    obtain ⟨k, rfl⟩ : ∃ m, k = m + 1 := ⟨k - 1, by omega⟩
    have hb0 : b = 0 := by omega
    subst hb0
    simp only [spec_l1Common.l0]
    rw [if_neg (by omega), Int.gcd_zero_right]
    congr 1; omega
  | succ n ih =>
    intro k a b ha hb0 hb hk
    obtain ⟨k, rfl⟩ : ∃ m, k = m + 1 := ⟨k - 1, by omega⟩
    simp only [spec_l1Common.l0]
    by_cases h : b = 0
    · subst h
      rw [if_neg (by omega), Int.gcd_zero_right]
      congr 1; omega
    · rw [if_pos (by omega), if_neg h]
      have := tmod_lt a b h
      have h2 := Int.tmod_nonneg b ha
      rw [ih k b (Int.tmod a b) hb0 h2 (by omega) (by omega), gcd_step]
theorem mx_abs (a : Int) (h : Pt a) : mx a (wrap64 (-a)) = (a.natAbs : Int) := by
  unfold Pt at h
  rw [w64 (by omega)]
  unfold mx; split <;> omega
theorem spec_l1Common_ev (k : Nat) (hk : 1000002 ≤ k) (a b : Int) (ha : Pt a) (hb : Pt b) : spec_l1Common.f k a b = some (Int.gcd a b : Int) := by
  unfold spec_l1Common.f
  rw [mx_abs a ha, mx_abs b hb, spec_l1Common_l0 1000001 k _ _ (by omega) (by omega) (by unfold Pt at hb; omega) (by omega)]
  rfl
theorem impl_isFraction_ev (k : Nat) (hk : 1000002 ≤ k) (u d : Int) : impl_isFraction.f k u d = some (decide (Fr u d)) := by
  unfold impl_isFraction.f
  simp only [impl_isPart_ev, Option.bind_some, decide_eq_true_eq]
  by_cases hu : Pt u
  · rw [if_pos hu]
    by_cases h1 : d < 0
    · rw [if_pos h1]; exact sf (by intro h; unfold Fr at h; omega)
    · rw [if_neg h1]
      by_cases h2 : d > 1000000
      · rw [if_pos h2]; exact sf (by intro h; unfold Fr at h; omega)
      · rw [if_neg h2]
        have hd : Pt d := by unfold Pt; omega
        rw [impl_gcd_ev k hk u d hu hd]
        unfold Pt at hu
        have e : ((Int.gcd u d : Int) == 1) = decide (Int.gcd u d = 1) := by rw [Bool.eq_iff_iff]; simp; omega
        simp only [Option.bind_some, e]
        by_cases h3 : d = 0
        · rw [if_pos h3]
          by_cases h4 : u = 1
          · rw [if_pos h4]; exact sd (by unfold Fr; omega)
          · rw [if_neg h4]; exact sf (by intro h; unfold Fr at h; omega)
        · rw [if_neg h3]; exact sd (by unfold Fr; omega)
  · rw [if_neg hu]; exact sf (by intro h; unfold Fr at h; unfold Pt at hu; omega)
theorem impl_FractionOk_ev (k : Nat) (hk : 1000002 ≤ k) (u d : Int) : impl_FractionOk.f k u d = some (decide (Fr u d)) := by
  unfold impl_FractionOk.f
  rw [impl_isFraction_ev k hk]; rfl
theorem spec_FractionOk_ev (k : Nat) (hk : 1000002 ≤ k) (u d : Int) : spec_FractionOk.f k u d = some (decide (Fr u d)) := by
  unfold spec_FractionOk.f
  simp only [spec_l1In_ev, Option.bind_some, decide_eq_true_eq]
  by_cases hu : -1000000 ≤ u ∧ u ≤ 1000000
  · rw [if_pos hu]
    by_cases hd : 0 ≤ d ∧ d ≤ 1000000
    · rw [if_pos hd, spec_l1Common_ev k hk u d hu (by unfold Pt; omega)]
      simp only [Option.bind_some]
      by_cases h1 : (Int.gcd u d : Int) = 1
      · rw [if_pos h1]
        by_cases h3 : d > 0
        · rw [if_pos h3]; exact st (by unfold Fr; omega)
        · rw [if_neg h3]
          have e : (u == 1) = decide (u = 1) := by rw [Bool.eq_iff_iff]; simp
          rw [e]; exact sd (by unfold Fr; omega)
      · rw [if_neg h1]; exact sf (by intro h; unfold Fr at h; omega)
    · rw [if_neg hd]; exact sf (by intro h; unfold Fr at h; omega)
  · rw [if_neg hu]; exact sf (by intro h; unfold Fr at h; omega)
theorem impl_lowest_ev (k : Nat) (hk : 1000002 ≤ k) (u d : Int) (hu : Pt u) (hd : Pt d) (h : ¬(u = 0 ∧ d = 0)) : impl_lowest.f k u d = some (lowU u d, lowD u d) := by
  unfold impl_lowest.f
  rw [impl_gcd_ev k hk u d hu hd]
  simp only [Option.bind_some]
  have hg := gcd_pos u d h
  have hl := gcd_le_pt u d hu hd
  have e1 : wrap64 (-(Int.gcd u d : Int)) = -(Int.gcd u d : Int) := w64 (by omega)
  unfold lowU lowD sg
  rw [e1]
  simp only [tdiv_w _ _ hu, tdiv_w _ _ hd]
  by_cases h1 : d < 0
  · rw [if_pos h1, if_neg (by omega), if_pos (by omega)]
  · rw [if_neg h1]
    by_cases h2 : d = 0
    · rw [if_pos h2]
      by_cases h3 : u < 0
      · rw [if_pos h3, if_neg (by omega), if_pos (by omega)]
      · rw [if_neg h3, if_neg (by omega), if_neg (by omega)]
    · rw [if_neg h2, if_neg (by omega), if_neg (by omega)]
theorem impl_lowest_over (k : Nat) (hk : 1000002 ≤ k) {u d : Int} (h : Fr u d) : impl_lowest.f k (wrap64 (-d)) u = some (ovU u d, ovD u) := by
  rw [h.wn, impl_lowest_ev k hk _ _ h.pn h.pu h.ne, (low_over h).1, (low_over h).2]
theorem spec_LowestOf_ev (k : Nat) (hk : 1000003 ≤ k) (u d : Int) : spec_LowestOf.f k u d = some (if Pt u ∧ Pt d ∧ ¬(u = 0 ∧ d = 0) then (lowU u d, lowD u d, true) else (0, 0, false)) := by
  obtain ⟨k, rfl⟩ : ∃ m, k = m + 1 := ⟨k - 1, by omega⟩
  have jt : spec_LowestOf.j0 (k + 1) u d true = some (0, 0, false) := by simp only [spec_LowestOf.j0]; rw [if_pos trivial]
  have jf : Pt u → Pt d → ¬(u = 0 ∧ d = 0) → spec_LowestOf.j0 (k + 1) u d false = some (lowU u d, lowD u d, true) := by
    intro hu hd h
    simp only [spec_LowestOf.j0]
    rw [if_neg (by simp), spec_l1Common_ev k (by omega) u d hu hd]
    simp only [Option.bind_some]
    have hg := gcd_pos u d h
    have hl := gcd_le_pt u d hu hd
    have e1 : wrap64 (-(Int.gcd u d : Int)) = -(Int.gcd u d : Int) := w64 (by omega)
    unfold lowU lowD sg
    rw [e1]
    simp only [tdiv_w _ _ hu, tdiv_w _ _ hd]
    by_cases h1 : d < 0
    · rw [if_pos h1, if_neg (by omega), if_pos (by omega)]
    · rw [if_neg h1]
      by_cases h2 : d = 0
      · rw [if_pos h2]
        by_cases h3 : u < 0
        · rw [if_pos h3, if_neg (by omega), if_pos (by omega)]
        · rw [if_neg h3, if_neg (by omega), if_neg (by omega)]
      · rw [if_neg h2, if_neg (by omega), if_neg (by omega)]
  have pt : ∀ n : Int, (-1000000 ≤ n ∧ n ≤ 1000000) ↔ Pt n := fun n => Iff.rfl
  unfold spec_LowestOf.f
  simp only [spec_l1In_ev, Option.bind_some, decide_eq_true_eq, pt]
  by_cases hu : Pt u
  · rw [if_pos hu]
    by_cases hd : Pt d
    · rw [if_pos hd]
      by_cases h : u = 0 ∧ d = 0
      · rw [if_pos h.1, if_neg (fun x => x.2.2 h)]
        have : (d == 0) = true := by simpa using h.2
        rw [this]; exact jt
      · have hp : Pt u ∧ Pt d ∧ ¬(u = 0 ∧ d = 0) := ⟨hu, hd, h⟩
        rw [if_pos hp]
        by_cases h1 : u = 0
        · rw [if_pos h1]
          have : (d == 0) = false := by simpa using (by omega : ¬ d = 0)
          rw [this]; exact jf hu hd h
        · rw [if_neg h1]; exact jf hu hd h
    · rw [if_neg hd, if_neg (fun x => hd x.2.1)]; exact jt
  · rw [if_neg hu, if_neg (fun x => hu x.1)]; exact jt
theorem spec_OverOf_ev (k : Nat) (hk : 1000003 ≤ k) (u d : Int) : spec_OverOf.f k u d = some (if Fr u d then (ovU u d, ovD u) else (0, 0)) := by
  unfold spec_OverOf.f
  simp only [spec_FractionOk_ev k (by omega), Option.bind_some, decide_eq_true_eq]
  by_cases h : Fr u d
  · rw [if_pos h, if_pos h, h.wn, spec_LowestOf_ev k hk, if_pos ⟨h.pn, h.pu, h.ne⟩]
    simp only [Option.bind_some, (low_over h).1, (low_over h).2]
  · rw [if_neg h, if_neg h]
theorem spec_PlusOf_ev (k : Nat) (hk : 1000002 ≤ k) (u d n : Int) : spec_PlusOf.f k u d n = some (if Fr u d ∧ Pt n then pl u d n else (0, 0, false)) := by
  have pt : ∀ n : Int, (-1000000 ≤ n ∧ n ≤ 1000000) ↔ Pt n := fun n => Iff.rfl
  unfold spec_PlusOf.f
  simp only [spec_FractionOk_ev k hk, spec_l1In_ev, Option.bind_some, decide_eq_true_eq, pt]
  by_cases h : Fr u d
  · rw [if_pos h]
    by_cases hn : Pt n
    · have hp : Fr u d ∧ Pt n := ⟨h, hn⟩
      rw [if_pos hn, if_pos hp, wplus h.pu h.pd hn]
      unfold pl
      split <;> rfl
    · rw [if_neg hn, if_neg (fun x => hn x.2)]
  · rw [if_neg h, if_neg (fun x => h x.1)]
theorem impl_plus_ev (k : Nat) (hk : 1000002 ≤ k) (u d n : Int) (h : Fr u d) (hn : Pt n) : impl_plus.f k u d n = some (pl u d n) := by
  unfold impl_plus.f
  rw [wplus h.pu h.pd hn, impl_isFraction_ev k hk]
  unfold pl
  simp only [Option.bind_some, decide_eq_true_eq]
  split <;> rfl
def Bs (l : List Int) : Prop := l.length ≤ 2000 ∧ ∀ i, 0 ≤ rd l i ∧ rd l i ≤ 255
theorem xor_nn (a b : Int) (ha : 0 ≤ a ∧ a ≤ 4611686018427387903) (hb : 0 ≤ b ∧ b ≤ 4611686018427387903) : 0 ≤ Go.bits .xor .i64 a b := by
  obtain ⟨m, rfl⟩ : ∃ m : Nat, a = m := ⟨a.toNat, by omega⟩
  obtain ⟨n, rfl⟩ : ∃ m : Nat, b = m := ⟨b.toNat, by omega⟩
  have hm : m < 2 ^ 62 := by omega
  have hn : n < 2 ^ 62 := by omega
  have hx := Nat.xor_lt_two_pow hm hn
  have e1 : m % 2 ^ IntKind.i64.bits = m := Nat.mod_eq_of_lt (Nat.lt_trans hm (by decide))
  have e2 : n % 2 ^ IntKind.i64.bits = n := Nat.mod_eq_of_lt (Nat.lt_trans hn (by decide))
  simp only [Go.bits, BitVec.ofInt_natCast, BitVec.toNat_xor, BitVec.toNat_ofNat, e1, e2]
  have e3 := IntKind.wrap_i64 ((m ^^^ n : Nat) : Int)
  rw [e3]
  omega
theorem tmod_rng (a n : Int) (ha : 0 ≤ a) (hn : 1 ≤ n) : 0 ≤ Int.tmod a n ∧ Int.tmod a n < n := ⟨Int.tmod_nonneg n ha, Int.tmod_lt_of_pos a (by omega)⟩
theorem pick_ev (k : Nat) (hk : 1 ≤ k) (l : List Int) (hl : Bs l) (p n : Int) (hp : 0 ≤ p ∧ p ≤ 1000000) (hn : n ≤ 10000000) :
    ∃ r, spec_l20Rd_pick.f k l p n = some (r, p + 1) ∧ 0 ≤ r ∧ (1 ≤ n → r < n) ∧ (n < 1 → r = 0) := by
  obtain ⟨k, rfl⟩ : ∃ m, k = m + 1 := ⟨k - 1, by omega⟩
  unfold spec_l20Rd_pick.f
  have e0 : wrap64 (p + 1) = p + 1 := w64 (by omega)
  have e1 : wrap64 (p + 1 - 1) = p := by rw [w64 (by omega)]; omega
  rw [e0]
  by_cases h1 : n < 1
  · rw [if_pos h1]
    simp only [spec_l20Rd_pick.j0]
    rw [if_pos trivial]
    exact ⟨0, rfl, by omega, by omega, fun _ => rfl⟩
  · rw [if_neg h1]
    simp only [spec_l20Rd_pick.j0]
    by_cases h2 : (l.length : Int) = 0
    · rw [if_pos (by simpa using h2)]
      exact ⟨0, rfl, by omega, by omega, fun _ => rfl⟩
    · rw [if_neg (by simpa using h2), e1]
      have hn0 : ¬ n = 0 := by omega
      by_cases h3 : p < (l.length : Int)
      · rw [if_pos h3, if_pos hp.1, if_neg hn0]
        have hr := hl.2 p
        rw [w64 (by omega : -9223372036854775808 ≤ rd l p ∧ _)]
        have := tmod_rng (rd l p) n (by omega) (by omega)
        exact ⟨_, rfl, this.1, fun _ => this.2, by omega⟩
      · rw [if_neg h3, if_neg h2]
        have t1 := tmod_rng p (l.length : Int) hp.1 (by omega)
        have e7 : wrap64 (wrap64 (p * 7) + 3) = p * 7 + 3 := by rw [w64 (by omega : -9223372036854775808 ≤ p * 7 ∧ _), w64 (by omega)]
        rw [e7]
        have t2 := tmod_rng (p * 7 + 3) (l.length : Int) (by omega) (by omega)
        rw [if_pos t1.1, if_pos t1.2, if_pos t2.1, if_pos t2.2, if_neg hn0]
        have r1 := hl.2 (Int.tmod p (l.length : Int))
        have r2 := hl.2 (Int.tmod (p * 7 + 3) (l.length : Int))
        generalize rd l (Int.tmod p (l.length : Int)) = a at r1 ⊢
        generalize rd l (Int.tmod (p * 7 + 3) (l.length : Int)) = b at r2 ⊢
        have q0 := tdiv_le p (l.length : Int)
        have q1 : 0 ≤ Int.tdiv p (l.length : Int) := Int.tdiv_nonneg hp.1 (by omega)
        generalize Int.tdiv p (l.length : Int) = q at q0 q1 ⊢
        have e2 : wrap64 a = a := w64 (by omega)
        have e3 : wrap64 b = b := w64 (by omega)
        have e4 : wrap64 q = q := w64 (by omega)
        rw [e2, e3, e4]
        have e5 : wrap64 (a * 131) = a * 131 := w64 (by omega)
        have e6 : wrap64 (b * 1117) = b * 1117 := w64 (by omega)
        have e8 : wrap64 (q * 53) = q * 53 := w64 (by omega)
        have e9 : wrap64 (p * 29) = p * 29 := w64 (by omega)
        rw [e5, e6, e8, e9]
        have e10 : wrap64 (a * 131 + b * 1117) = a * 131 + b * 1117 := w64 (by omega)
        rw [e10]
        have e11 : wrap64 (a * 131 + b * 1117 + p * 29) = a * 131 + b * 1117 + p * 29 := w64 (by omega)
        rw [e11]
        have e12 : wrap64 (a * 131 + b * 1117 + p * 29 + q * 53) = a * 131 + b * 1117 + p * 29 + q * 53 := w64 (by omega)
        rw [e12]
        have hX : 0 ≤ a * 131 + b * 1117 + p * 29 + q * 53 ∧ a * 131 + b * 1117 + p * 29 + q * 53 ≤ 4611686018427387903 := by omega
        generalize a * 131 + b * 1117 + p * 29 + q * 53 = X at hX ⊢
        have q2 := tdiv_le X 64
        have q3 : 0 ≤ Int.tdiv X 64 := Int.tdiv_nonneg hX.1 (by omega)
        have e13 : wrap64 (Int.tdiv X 64) = Int.tdiv X 64 := w64 (by omega)
        rw [e13]
        have := tmod_rng _ n (xor_nn X (Int.tdiv X 64) hX (by omega)) (by omega)
        exact ⟨_, rfl, this.1, fun _ => this.2, by omega⟩
theorem odd_ev (k : Nat) (hk : 1 ≤ k) (l : List Int) (hl : Bs l) (p n : Int) (hp : 0 ≤ p ∧ p ≤ 1000000) (hn : n ≤ 10000000) :
    ∃ b p', spec_l20Rd_odd.f k l p n = some (b, p') ∧ p ≤ p' ∧ p' ≤ p + 1 := by
  unfold spec_l20Rd_odd.f
  by_cases h : n > 0
  · rw [if_pos h]
    obtain ⟨r, e, _⟩ := pick_ev k hk l hl p n hp hn
    rw [e]
    exact ⟨_, _, rfl, by omega, by omega⟩
  · rw [if_neg h]; exact ⟨_, _, rfl, by omega, by omega⟩
theorem open_ev (l : List Int) (hw : ∀ x ∈ l, (Lit.int .u8 x).wf = true) : ∃ m, spec_l20Open.f l = some (m, 0) ∧ Bs m := by
  have key : ∀ m : List Int, m.length ≤ 2000 → (∀ x ∈ m, x ∈ l) → Bs m := by
    intro m hm hs
    refine ⟨hm, fun i => ?_⟩
    unfold rd
    by_cases h : i.toNat < m.length
    · have : m.getD i.toNat 0 = m[i.toNat] := by simp [h]
      rw [this]
      have h1 := hw _ (hs _ (List.getElem_mem h))
      simp [Lit.wf, IntKind.min, IntKind.max, IntKind.signed, IntKind.bits] at h1
      omega
    · have : m.getD i.toNat 0 = 0 := by simp [Nat.le_of_not_lt h]
      rw [this]; omega
  unfold spec_l20Open.f
  by_cases h : (l.length : Int) > 2000
  · rw [if_pos h, if_pos (by omega)]
    exact ⟨_, rfl, key _ (by simp; omega) (fun x hx => List.mem_of_mem_take hx)⟩
  · rw [if_neg h]
    exact ⟨_, rfl, key _ (by omega) (fun x hx => hx)⟩
def Bd (n : Int) : Prop := -2000000 ≤ n ∧ n ≤ 2000000
theorem low_bd {u d : Int} (hu : Pt u) (hd : Pt d) : Bd (lowU u d) ∧ Bd (lowD u d) := by
  have h1 := tdiv_le u (sg u d)
  have h2 := tdiv_le d (sg u d)
  unfold Pt at hu hd
  unfold Bd lowU lowD
  omega
theorem fraction_ev (k : Nat) (hk : 1000004 ≤ k) (l : List Int) (hl : Bs l) (p n : Int) (hp : 0 ≤ p ∧ p ≤ 900000) (hn : n ≤ 10000000) :
    ∃ u d p', spec_l20Fraction.f k l p n = some (u, d, p') ∧ p ≤ p' ∧ p' ≤ p + 10 ∧ Bd u ∧ Bd d := by
  have j : ∀ (k : Nat) (p u d : Int), 2 ≤ k → 0 ≤ p → p ≤ 900010 → Bd u → Bd d → ∃ u' d' p', spec_l20Fraction.j0 k n l p u d = some (u', d', p') ∧ p ≤ p' ∧ p' ≤ p + 2 ∧ Bd u' ∧ Bd d' := by
    intro k p u d hk h0 h1 hu hd
    obtain ⟨k, rfl⟩ : ∃ m, k = m + 1 := ⟨k - 1, by omega⟩
    simp only [spec_l20Fraction.j0]
    obtain ⟨b, p', e, h2, h3⟩ := odd_ev k (by omega) l hl p n (by omega) hn
    rw [e]
    simp only [Option.bind_some]
    by_cases hb : b = true
    · rw [if_pos hb]
      obtain ⟨r, e2, h4, h5, _⟩ := pick_ev k (by omega) l hl p' 5 (by omega) (by omega)
      rw [e2]
      simp only [Option.bind_some]
      have h6 := h5 (by omega)
      rw [if_pos h4, if_pos (by simp only [List.length_cons, List.length_nil]; omega)]
      refine ⟨_, _, _, rfl, by omega, by omega, ?_⟩
      have : r = 0 ∨ r = 1 ∨ r = 2 ∨ r = 3 ∨ r = 4 := by omega
      unfold Bd
      rcases this with rfl | rfl | rfl | rfl | rfl <;> decide
    · rw [if_neg hb]
      exact ⟨_, _, _, rfl, by omega, by omega, hu, hd⟩
  unfold spec_l20Fraction.f
  simp only [Option.bind_some]
  obtain ⟨r, e1, h1, h2, _⟩ := pick_ev k (by omega) l hl p 4 (by omega) (by omega)
  rw [e1]
  simp only [Option.bind_some]
  have h3 := h2 (by omega)
  rw [if_pos h1, if_pos (by simp only [List.length_cons, List.length_nil]; omega)]
  have hh : 1 ≤ rd [4, 10, 50, 1000] r ∧ rd [4, 10, 50, 1000] r ≤ 1000 := by
    have : r = 0 ∨ r = 1 ∨ r = 2 ∨ r = 3 := by omega
    rcases this with rfl | rfl | rfl | rfl <;> decide
  generalize rd [4, 10, 50, 1000] r = hi at hh ⊢
  obtain ⟨a, e2, a1, a2, _⟩ := pick_ev k (by omega) l hl (p + 1) hi (by omega) (by omega)
  rw [e2]
  simp only [Option.bind_some]
  obtain ⟨b, e3, b1, b2, _⟩ := pick_ev k (by omega) l hl (p + 1 + 1) hi (by omega) (by omega)
  rw [e3]
  simp only [Option.bind_some]
  obtain ⟨c, e4, c1, c2, _⟩ := pick_ev k (by omega) l hl (p + 1 + 1 + 1) hi (by omega) (by omega)
  rw [e4]
  simp only [Option.bind_some]
  have a3 := a2 (by omega)
  have b3 := b2 (by omega)
  have c3 := c2 (by omega)
  rw [w64 (by omega), spec_LowestOf_ev k (by omega)]
  simp only [Option.bind_some]
  by_cases hz : Pt (a - b) ∧ Pt c ∧ ¬(a - b = 0 ∧ c = 0)
  · rw [if_pos hz, if_pos rfl]
    obtain ⟨u, d, p', e, q1, q2, q3⟩ := j k (p + 1 + 1 + 1 + 1) _ _ (by omega) (by omega) (by omega) (low_bd hz.1 hz.2.1).1 (low_bd hz.1 hz.2.1).2
    exact ⟨u, d, p', e, by omega, by omega, q3⟩
  · rw [if_neg hz, if_neg (by simp)]
    obtain ⟨u, d, p', e, q1, q2, q3⟩ := j k (p + 1 + 1 + 1 + 1) 1 0 (by omega) (by omega) (by omega) (by unfold Bd; omega) (by unfold Bd; omega)
    exact ⟨u, d, p', e, by omega, by omega, q3⟩
theorem alive_ev (k : Nat) (hk : 1000002 ≤ k) : laws_alive.f k = some true := by
  unfold laws_alive.f
  simp only [impl_FractionOk_ev k hk, Option.bind_some]
  decide
theorem spec_DanceOk_l0 (s : ByteArray) (hn : s.size ≤ 1000000000) (d : Nat) : ∀ (k : Nat) (i : Int), 0 ≤ i → i + d = s.size → d < k → spec_DanceOk.l0 k s i = some (decide (dok (s.data.toList.drop i.toNat) = true ∧ s.size ≤ 40)) := by
  have hsz : s.data.toList.length = s.size := by simp
  induction d with
  | zero =>
    intro k i h0 hd hk
    obtain ⟨k, rfl⟩ : ∃ m, k = m + 1 := ⟨k - 1, by omega⟩
    simp only [spec_DanceOk.l0]
    rw [if_neg (by omega), List.drop_eq_nil_of_le (by omega)]
    exact sd ⟨fun x => ⟨rfl, by omega⟩, fun x => by omega⟩
  | succ d ih =>
    intro k i h0 hd hk
    obtain ⟨k, rfl⟩ : ∃ m, k = m + 1 := ⟨k - 1, by omega⟩
    simp only [spec_DanceOk.l0]
    have h1 : i.toNat < s.size := by omega
    have h2 : i.toNat < s.data.toList.length := by omega
    rw [if_pos (by omega), if_pos h0, w64 (by omega), ih k (i + 1) (by omega) (by omega) (by omega)]
    have e : (i + 1).toNat = i.toNat + 1 := by omega
    rw [e, bt_get s i h0 h1, List.drop_eq_getElem_cons h2]
    generalize s.data.toList[i.toNat] = c
    have hm := mv_iff c
    have hc : dok (c :: List.drop (i.toNat + 1) s.data.toList) = (mv c && dok (List.drop (i.toNat + 1) s.data.toList)) := rfl
    rw [hc]
    by_cases c1 : (c.toNat : Int) = 84
    · rw [if_pos c1]; have : mv c = true := hm.2 (Or.inl c1); rw [this, Bool.true_and]
    · rw [if_neg c1]
      by_cases c2 : (c.toNat : Int) = 116
      · rw [if_pos c2]; have : mv c = true := hm.2 (Or.inr (Or.inl c2)); rw [this, Bool.true_and]
      · rw [if_neg c2]
        by_cases c3 : (c.toNat : Int) = 82
        · rw [if_pos c3]; have : mv c = true := hm.2 (Or.inr (Or.inr c3)); rw [this, Bool.true_and]
        · rw [if_neg c3]
          have : mv c = false := by
            rcases Bool.eq_false_or_eq_true (mv c) with h | h
            · have := hm.1 h; omega
            · exact h
          rw [this, Bool.false_and]
          exact sf (by simp)
theorem spec_DanceOk_ev (k : Nat) (s : ByteArray) (hk : s.size < k) (hn : s.size ≤ 1000000000) : spec_DanceOk.f k s = some (decide (Dn s)) := by
  unfold spec_DanceOk.f
  rw [spec_DanceOk_l0 s hn s.size k 0 (by omega) (by omega) hk]
  rfl
theorem rdOf_sz (L : List ByteArray) (h : ∀ x ∈ L, x.size ≤ 50) (r : Int) : (rdOf ByteArray.empty L r).size ≤ 50 := by
  unfold rdOf
  by_cases hr : r.toNat < L.length
  · have : L.getD r.toNat ByteArray.empty = L[r.toNat] := by simp [hr]
    rw [this]
    exact h _ (List.getElem_mem hr)
  · have : L.getD r.toNat ByteArray.empty = ByteArray.empty := by simp [Nat.le_of_not_lt hr]
    rw [this]
    decide
theorem dance_ev (k : Nat) (l : List Int) (hl : Bs l) (p a n : Int) (hk : a.toNat + 4 < k) (hp : 0 ≤ p ∧ p ≤ 900000) (ha : 0 ≤ a ∧ a ≤ 1000) (hn : n ≤ 10000000) :
    ∃ s p', spec_l20Dance.f k l p a n = some (s, p') ∧ p ≤ p' ∧ p' ≤ p + a + 5 ∧ s.size ≤ 50 * a.toNat + 50 := by
  have j : ∀ (d : Nat) (k : Nat) (s : ByteArray) (p : Int), d + 2 < k → 0 ≤ p → p + d ≤ 901010 → s.size + 50 * d ≤ 100000 → ∃ t p', spec_l20Dance.l0 k n s (d : Int) l p = some (t, p') ∧ p ≤ p' ∧ p' ≤ p + d + 2 ∧ t.size ≤ s.size + 50 * d + 50 := by
    intro d
    induction d with
    | zero =>
      intro k s p hk h0 h1 hs
      obtain ⟨k, rfl⟩ : ∃ m, k = m + 1 := ⟨k - 1, by omega⟩
      simp only [spec_l20Dance.l0]
      rw [if_neg (by omega)]
      obtain ⟨b, p', e, h2, h3⟩ := odd_ev k (by omega) l hl p n (by omega) hn
      rw [e]
      simp only [Option.bind_some]
      by_cases hb : b = true
      · rw [if_pos hb]
        obtain ⟨r, e2, h4, h5, _⟩ := pick_ev k (by omega) l hl p' 3 (by omega) (by omega)
        rw [e2]
        simp only [Option.bind_some]
        have h6 := h5 (by omega)
        rw [if_pos h4, if_pos (by simp only [List.length_cons, List.length_nil]; omega)]
        split
        · exact ⟨_, _, rfl, by omega, by omega, by rw [ByteArray.size_append]; exact Nat.le_trans (Nat.add_le_add_left (rdOf_sz _ (by decide) r) _) (by omega)⟩
        · rename_i hc
          exact absurd (Nat.le_trans (Nat.add_le_add_left (rdOf_sz _ (by decide) r) _) (by omega)) hc
      · rw [if_neg hb]
        exact ⟨_, _, rfl, by omega, by omega, by omega⟩
    | succ d ih =>
      intro k s p hk h0 h1 hs
      obtain ⟨k, rfl⟩ : ∃ m, k = m + 1 := ⟨k - 1, by omega⟩
      simp only [spec_l20Dance.l0]
      rw [if_pos (by omega)]
      simp only [Option.bind_some]
      obtain ⟨r, e2, h4, h5, _⟩ := pick_ev k (by omega) l hl p 6 (by omega) (by omega)
      rw [e2]
      simp only [Option.bind_some]
      have h6 := h5 (by omega)
      rw [if_pos h4, if_pos (by simp only [List.length_cons, List.length_nil]; omega), if_pos (Nat.le_trans (Nat.add_le_add_left (rdOf_sz _ (by decide) r) _) (by omega)), w64 (by omega)]
      have h7 := rdOf_sz [(⟨#[84]⟩ : ByteArray), (⟨#[84]⟩ : ByteArray), (⟨#[82]⟩ : ByteArray), (⟨#[116]⟩ : ByteArray), (⟨#[82]⟩ : ByteArray), (⟨#[84]⟩ : ByteArray)] (by decide) r
      have e3 : ((d + 1 : Nat) : Int) - 1 = (d : Int) := by omega
      rw [e3]
      obtain ⟨t, p', e4, h8, h9, h10⟩ := ih k (s ++ rdOf ByteArray.empty [(⟨#[84]⟩ : ByteArray), (⟨#[84]⟩ : ByteArray), (⟨#[82]⟩ : ByteArray), (⟨#[116]⟩ : ByteArray), (⟨#[82]⟩ : ByteArray), (⟨#[84]⟩ : ByteArray)] r) (p + 1) (by omega) (by omega) (by omega) (by rw [ByteArray.size_append]; omega)
      rw [ByteArray.size_append] at h10
      exact ⟨t, p', e4, by omega, by omega, by omega⟩
  unfold spec_l20Dance.f
  rw [w64 (by omega)]
  obtain ⟨r, e1, h1, h2, _⟩ := pick_ev k (by omega) l hl p (a + 1) (by omega) (by omega)
  rw [e1]
  simp only [Option.bind_some]
  have h3 := h2 (by omega)
  obtain ⟨d, rfl⟩ : ∃ d : Nat, r = d := ⟨r.toNat, by omega⟩
  obtain ⟨t, p', e4, h8, h9, h10⟩ := j d k (⟨#[]⟩ : ByteArray) (p + 1) (by omega) (by omega) (by omega) (by show 0 + 50 * d ≤ 100000; omega)
  have e0 : (⟨#[]⟩ : ByteArray).size = 0 := rfl
  rw [e0] at h10
  exact ⟨t, p', e4, by omega, by omega, by omega⟩
def ovr (f : Int × Int) : Int × Int := (ovU f.1 f.2, ovD f.1)
def plusO (f : Int × Int) (n : Int) : Option (Int × Int) := if Fr (f.1 + n * f.2) f.2 then some (f.1 + n * f.2, f.2) else none
def mvO (f : Int × Int) (c : UInt8) : Option (Int × Int) := if c = 84 then plusO f 1 else if c = 116 then plusO f (-1) else some (ovr f)
def dnc : (Int × Int) → List UInt8 → Option (Int × Int)
  | f, [] => some f
  | f, c :: l => (mvO f c).bind fun g => dnc g l
theorem dnc_app (l m : List UInt8) : ∀ f, dnc f (l ++ m) = (dnc f l).bind fun g => dnc g m := by
  induction l with
  | nil => intro f; rfl
  | cons c l ih =>
    intro f
    show (mvO f c).bind (fun g => dnc g (l ++ m)) = ((mvO f c).bind fun g => dnc g l).bind fun g => dnc g m
    cases mvO f c with
    | none => rfl
    | some g => exact ih g
theorem plusO_fr {f g : Int × Int} {n : Int} (h : plusO f n = some g) : Fr g.1 g.2 ∧ g = (f.1 + n * f.2, f.2) := by
  unfold plusO at h
  split at h
  · have e := Option.some.inj h
    rw [← e]
    exact ⟨by assumption, rfl⟩
  · cases h
theorem mvO_fr {f g : Int × Int} {c : UInt8} (hf : Fr f.1 f.2) (h : mvO f c = some g) : Fr g.1 g.2 := by
  unfold mvO at h
  split at h
  · exact (plusO_fr h).1
  · split at h
    · exact (plusO_fr h).1
    · have e := Option.some.inj h
      rw [← e]
      exact hf.over
theorem dnc_fr (l : List UInt8) : ∀ {f g : Int × Int}, Fr f.1 f.2 → dnc f l = some g → Fr g.1 g.2 := by
  induction l with
  | nil => intro f g hf h; have e : f = g := Option.some.inj h; rw [← e]; exact hf
  | cons c l ih =>
    intro f g hf h
    obtain ⟨x, h1, h2⟩ := Option.bind_eq_some_iff.mp (show (mvO f c).bind (fun g => dnc g l) = some g from h)
    exact ih (mvO_fr hf h1) h2
theorem ovr_ovr {f : Int × Int} (h : Fr f.1 f.2) : ovr (ovr f) = f := by
  have := over_over h
  unfold ovr
  rw [this.1, this.2]
theorem mv_cases {c : UInt8} (h : mv c = true) : c = 84 ∨ c = 116 ∨ c = 82 := by
  unfold mv at h
  simp only [Bool.or_eq_true, beq_iff_eq] at h
  rcases h with (h | h) | h
  · exact Or.inl h
  · exact Or.inr (Or.inl h)
  · exact Or.inr (Or.inr h)
theorem mvO_T (f : Int × Int) : mvO f 84 = plusO f 1 := by unfold mvO; rw [if_pos rfl]
theorem mvO_t (f : Int × Int) : mvO f 116 = plusO f (-1) := by unfold mvO; rw [if_neg (by decide), if_pos rfl]
theorem mvO_R (f : Int × Int) : mvO f 82 = some (ovr f) := by unfold mvO; rw [if_neg (by decide), if_neg (by decide)]
theorem plusO_back {f g : Int × Int} {n : Int} (hf : Fr f.1 f.2) (h : plusO f n = some g) : plusO g (-n) = some f := by
  obtain ⟨h1, h2⟩ := plusO_fr h
  rw [h2]
  unfold plusO
  have e : f.1 + n * f.2 + -n * f.2 = f.1 := by rw [Int.neg_mul]; omega
  rw [e, if_pos hf]
theorem bk_T : bk 84 = 116 := by decide
theorem bk_t : bk 116 = 84 := by decide
theorem bk_R : bk 82 = 82 := by decide
theorem mvO_back {f g : Int × Int} {c : UInt8} (hf : Fr f.1 f.2) (hc : mv c = true) (h : mvO f c = some g) : mvO g (bk c) = some f := by
  rcases mv_cases hc with rfl | rfl | rfl
  · rw [bk_T, mvO_t]; rw [mvO_T] at h; exact plusO_back hf h
  · rw [bk_t, mvO_T]; rw [mvO_t] at h; exact plusO_back hf h
  · rw [bk_R, mvO_R]; rw [mvO_R] at h
    rw [← Option.some.inj h, ovr_ovr hf]
theorem backL_cons (c : UInt8) (l : List UInt8) : backL (c :: l) = backL l ++ [bk c] := by
  unfold backL; simp
theorem dnc_back (l : List UInt8) : ∀ {f g : Int × Int}, Fr f.1 f.2 → dok l = true → dnc f l = some g → dnc g (backL l) = some f := by
  induction l with
  | nil => intro f g hf hd h; have e : f = g := Option.some.inj h; rw [← e]; rfl
  | cons c l ih =>
    intro f g hf hd h
    have hd' : mv c = true ∧ dok l = true := by
      have : (mv c && dok l) = true := hd
      simpa using this
    obtain ⟨x, h1, h2⟩ := Option.bind_eq_some_iff.mp (show (mvO f c).bind (fun g => dnc g l) = some g from h)
    have hx := mvO_fr hf h1
    rw [backL_cons, dnc_app, ih hx hd'.2 h2]
    show (mvO x (bk c)).bind (fun g => some g) = some f
    rw [mvO_back hf hd'.1 h1]
    rfl
theorem bk_bk {c : UInt8} (h : mv c = true) : bk (bk c) = c ∧ mv (bk c) = true := by
  rcases mv_cases h with rfl | rfl | rfl <;> decide
theorem dok_backL (l : List UInt8) (h : dok l = true) : dok (backL l) = true := by
  unfold dok backL at *
  rw [List.all_eq_true] at *
  intro x hx
  rw [List.mem_map] at hx
  obtain ⟨y, hy, rfl⟩ := hx
  rw [List.mem_reverse] at hy
  exact (bk_bk (h y hy)).2
def mvT (f : Int × Int) (c : UInt8) : Int × Int := if c = 84 then (f.1 + f.2, f.2) else if c = 116 then (f.1 - f.2, f.2) else ovr f
def totL (f : Int × Int) (l : List UInt8) : Int × Int := l.foldl mvT f
def CF (f : Int × Int) : Prop := 0 ≤ f.2 ∧ (f.2 = 0 → f.1 = 1) ∧ Int.gcd f.1 f.2 = 1
theorem Fr.cf {f : Int × Int} (h : Fr f.1 f.2) : CF f := ⟨h.2.2.1, h.2.2.2.2.1, h.2.2.2.2.2⟩
theorem CF.up {f : Int × Int} (h : CF f) : f.1 = 0 → f.2 = 1 := by
  intro h0
  have := h.2.2
  have hd := h.1
  rw [h0, Int.zero_gcd] at this
  omega
theorem mvT_T (f : Int × Int) : mvT f 84 = (f.1 + f.2, f.2) := by unfold mvT; rw [if_pos rfl]
theorem mvT_R (f : Int × Int) : mvT f 82 = ovr f := by unfold mvT; rw [if_neg (by decide), if_neg (by decide)]
theorem CF.tw {f : Int × Int} (h : CF f) (n : Int) : CF (f.1 + n * f.2, f.2) := by
  obtain ⟨h1, h2, h3⟩ := h
  refine ⟨h1, ?_, ?_⟩
  · intro h0
    have e : f.2 = 0 := h0
    have := h2 e
    show f.1 + n * f.2 = 1
    rw [e, Int.mul_zero]; omega
  · show Int.gcd (f.1 + n * f.2) f.2 = 1
    rw [Int.gcd_add_mul_right_left]; exact h3
theorem mvO_mvT {f g : Int × Int} {c : UInt8} (h : mvO f c = some g) : g = mvT f c := by
  unfold mvO at h
  unfold mvT
  split at h
  · rename_i hc; rw [if_pos hc]
    have := (plusO_fr h).2
    rw [Int.one_mul] at this; exact this
  · rename_i hc; rw [if_neg hc]
    split at h
    · rename_i hc2; rw [if_pos hc2]
      have := (plusO_fr h).2
      have e : f.1 + -1 * f.2 = f.1 - f.2 := by omega
      rw [e] at this; exact this
    · rename_i hc2; rw [if_neg hc2]; exact (Option.some.inj h).symm
theorem dnc_tot (l : List UInt8) : ∀ {f g : Int × Int}, dnc f l = some g → g = totL f l := by
  induction l with
  | nil => intro f g h; exact (Option.some.inj h).symm
  | cons c l ih =>
    intro f g h
    obtain ⟨x, h1, h2⟩ := Option.bind_eq_some_iff.mp (show (mvO f c).bind (fun g => dnc g l) = some g from h)
    rw [ih h2, mvO_mvT h1]
    rfl
theorem tot_three {f : Int × Int} (h : CF f) : totL f [84, 82, 84, 82, 84, 82] = f := by
  have hu := h.up
  have hq := (h.tw 1).up
  obtain ⟨h1, h2, h3⟩ := h
  obtain ⟨u, d⟩ := f
  simp only [Int.one_mul] at h1 h2 hu hq
  show mvT (mvT (mvT (mvT (mvT (mvT (u, d) 84) 82) 84) 82) 84) 82 = (u, d)
  simp only [mvT_T, mvT_R]
  unfold ovr ovU ovD
  simp only
  by_cases c1 : u + d ≤ 0
  · simp only [if_pos c1]
    have c2 : ¬ d + -(u + d) ≤ 0 := by omega
    simp only [if_neg c2]
    have c3 : ¬ (- -(u + d) + (d + -(u + d))) ≤ 0 := by omega
    simp only [if_neg c3, Prod.mk.injEq]
    omega
  · simp only [if_neg c1]
    by_cases c2 : -d + (u + d) ≤ 0
    · simp only [if_pos c2]
      have c3 : ¬ (u + d + -(-d + (u + d))) ≤ 0 := by omega
      simp only [if_neg c3, Prod.mk.injEq]
      omega
    · simp only [if_neg c2]
      have c3 : (-(u + d) + (-d + (u + d))) ≤ 0 := by omega
      simp only [if_pos c3, Prod.mk.injEq]
      omega
-- shortened
theorem impl_areMoves_ev (s : ByteArray) (hn : s.size ≤ 1000000000) : impl_areMoves.f s = some (dok s.data.toList) := by
  unfold impl_areMoves.f; rw [if_pos (by omega)]; rfl
theorem impl_isDance_ev (s : ByteArray) : impl_isDance.f s = some (decide (Dn s)) := by
  unfold impl_isDance.f
  by_cases h : (s.size : Int) ≤ 40
  · rw [if_pos h, impl_areMoves_ev s (by omega)]
    show some (dok s.data.toList) = _
    congr 1
    by_cases hd : dok s.data.toList = true
    · rw [hd, decide_eq_true (show Dn s from ⟨hd, by omega⟩)]
    · rw [decide_eq_false (show ¬ Dn s from fun x => hd x.1)]; simpa using hd
  · rw [if_neg h, decide_eq_false (fun x => h (by have := x.2; omega))]
theorem impl_backMove_ev (c : UInt8) : impl_backMove.f (c.toNat : Int) = some (ofL [bk c]) := by
  have q1' : ((c.toNat : Int) = 84) ↔ c = 84 := u8_eq c 84 (by omega)
  have q2' : ((c.toNat : Int) = 116) ↔ c = 116 := u8_eq c 116 (by omega)
  unfold impl_backMove.f bk
  by_cases c1 : c = 84
  · rw [if_pos (q1'.2 c1), if_pos c1]; rfl
  · rw [if_neg (fun x => c1 (q1'.1 x)), if_neg c1]
    by_cases c2 : c = 116
    · rw [if_pos (q2'.2 c2), if_pos c2]; rfl
    · rw [if_neg (fun x => c2 (q2'.1 x)), if_neg c2]; rfl
theorem impl_BackOf_l0 (s : ByteArray) (h40 : s.size ≤ 40) (n : Nat) : ∀ (k : Nat) (l : List UInt8), n < k → n ≤ s.size → l.length + n ≤ 1000 → impl_BackOf.l0 k s (ofL l) ((n : Int) - 1) = some (ofL (l ++ backL (s.data.toList.take n))) := by
  have hsz : s.data.toList.length = s.size := by simp
  induction n with
  | zero =>
    intro k l hk hn hl
    obtain ⟨k, rfl⟩ : ∃ m, k = m + 1 := ⟨k - 1, by omega⟩
    simp only [impl_BackOf.l0]
    rw [if_neg (by omega)]
    simp [backL]
  | succ n ih =>
    intro k l hk hn hl
    obtain ⟨k, rfl⟩ : ∃ m, k = m + 1 := ⟨k - 1, by omega⟩
    simp only [impl_BackOf.l0]
    have e : ((n + 1 : Nat) : Int) - 1 = (n : Int) := by omega
    have hn1 : n < s.data.toList.length := by omega
    have hb' : bt s (n : Int) = (s.data.toList[n].toNat : Int) := bt_get s (n : Int) (by omega) (by omega)
    rw [e, if_pos (by omega), if_pos (by omega), if_pos (by omega), hb', impl_backMove_ev, w64 (by omega), backL_take _ _ hn1]
    simp only [Option.bind_some]
    rw [if_pos (by rw [ofL_size, ofL_size]; simp; omega), ofL_app, ih k _ (by omega) (by omega) (by simp; omega)]
    simp
theorem impl_BackOf_ev (k : Nat) (s : ByteArray) (hk : 60 ≤ k) : impl_BackOf.f k s = some (if Dn s then ofL (backL s.data.toList) else ofL []) := by
  have e0 : (⟨#[]⟩ : ByteArray) = ofL [] := rfl
  have hsz : s.data.toList.length = s.size := by simp
  unfold impl_BackOf.f
  rw [impl_isDance_ev]
  simp only [Option.bind_some, decide_eq_true_eq]
  by_cases h : Dn s
  · have h40 := h.2
    rw [if_pos h, if_pos h, e0, w64 (by omega), impl_BackOf_l0 s h40 s.size k [] (by omega) (by omega) (by simp; omega), List.take_of_length_le (by omega)]
    simp
  · rw [if_neg h, if_neg h]; rfl
def dR (o : Option (Int × Int)) : Int × Int × Bool := match o with | some f => (f.1, f.2, true) | none => (0, 0, false)
theorem pl_plusO (u d n : Int) : pl u d n = dR (plusO (u, d) n) := by
  unfold pl plusO
  by_cases h : Fr (u + n * d) d
  · rw [if_pos h, if_pos h]; rfl
  · rw [if_neg h, if_neg h]; rfl
theorem pt1 : Pt 1 ∧ Pt (-1) := by unfold Pt; omega
theorem mvO_84 (f : Int × Int) (c : UInt8) (h : (c.toNat : Int) = 84) : mvO f c = plusO f 1 := by rw [(u8_eq c 84 (by omega)).1 h]; exact mvO_T f
theorem mvO_116 (f : Int × Int) (c : UInt8) (h : (c.toNat : Int) = 116) : mvO f c = plusO f (-1) := by rw [(u8_eq c 116 (by omega)).1 h]; exact mvO_t f
theorem mvO_else (f : Int × Int) (c : UInt8) (h : ¬(c.toNat : Int) = 84) (h2 : ¬(c.toNat : Int) = 116) : mvO f c = some (ovr f) := by
  have g1 : ¬ c = 84 := fun x => h ((u8_eq c 84 (by omega)).2 x)
  have g2 : ¬ c = 116 := fun x => h2 ((u8_eq c 116 (by omega)).2 x)
  unfold mvO
  rw [if_neg g1, if_neg g2]
theorem impl_danced_l0 (s : ByteArray) (h40 : s.size ≤ 2000) (d : Nat) : ∀ (k : Nat) (i : Nat) (f : Int × Int), d + 1000010 ≤ k → i + d = s.size → Fr f.1 f.2 → impl_danced.l0 k s (s.size : Int) (i : Int) f.1 f.2 = some (dR (dnc f (s.data.toList.drop i))) := by
  have hsz : s.data.toList.length = s.size := by simp
  induction d with
  | zero =>
    intro k i f hk hd hf
    obtain ⟨k, rfl⟩ : ∃ m, k = m + 1 := ⟨k - 1, by omega⟩
    simp only [impl_danced.l0]
    rw [if_neg (by omega), List.drop_eq_nil_of_le (by omega)]; rfl
  | succ d ih =>
    intro k i f hk hd hf
    obtain ⟨k, rfl⟩ : ∃ m, k = m + 1 := ⟨k - 1, by omega⟩
    have hi : i < s.data.toList.length := by omega
    have hb' : bt s (i : Int) = (s.data.toList[i].toNat : Int) := bt_get s (i : Int) (by omega) (by omega)
    have e1 : ((i : Int) + 1) = ((i + 1 : Nat) : Int) := by omega
    simp only [impl_danced.l0]
    rw [if_pos (by omega), if_pos (by omega), if_pos (by omega), w64 (by omega), hb', e1, List.drop_eq_getElem_cons hi]
    generalize s.data.toList[i] = c
    show _ = some (dR ((mvO f c).bind fun g => dnc g (List.drop (i + 1) s.data.toList)))
    have tw : ∀ n : Int, Pt n → mvO f c = plusO f n → ((impl_plus.f k f.1 f.2 n).bind fun bt149 => (if bt149.2.2 = true then (impl_danced.l0 k s (s.size : Int) ((i + 1 : Nat) : Int) bt149.1 bt149.2.1) else (some (0, 0, false)))) = some (dR ((mvO f c).bind fun g => dnc g (List.drop (i + 1) s.data.toList))) := by
      intro n hn hm
      rw [impl_plus_ev k (by omega) f.1 f.2 n hf hn, pl_plusO, hm]
      cases hp : plusO (f.1, f.2) n with
      | none => rfl
      | some g => exact ih k (i + 1) g (by omega) (by omega) (plusO_fr hp).1
    by_cases c1 : (c.toNat : Int) = 84
    · rw [if_pos c1]; exact tw 1 pt1.1 (mvO_84 f c c1)
    · rw [if_neg c1]
      by_cases c2 : (c.toNat : Int) = 116
      · rw [if_pos c2]; exact tw (-1) pt1.2 (mvO_116 f c c2)
      · rw [if_neg c2, impl_lowest_over k (by omega) hf, mvO_else f c c1 c2]
        exact ih k (i + 1) (ovr f) (by omega) (by omega) hf.over
theorem impl_danced_ev (k : Nat) (hk : 1002100 ≤ k) (u d : Int) (s : ByteArray) (h40 : s.size ≤ 2000) (hf : Fr u d) : impl_danced.f k u d s = some (dR (dnc (u, d) s.data.toList)) :=
  impl_danced_l0 s h40 s.size k 0 (u, d) (by omega) (by omega) hf
theorem impl_DancedFrom_ev (k : Nat) (hk : 1002100 ≤ k) (u d : Int) (s : ByteArray) : impl_DancedFrom.f k u d s = some (if Fr u d ∧ Dn s then dR (dnc (u, d) s.data.toList) else (0, 0, false)) := by
  unfold impl_DancedFrom.f
  rw [impl_isFraction_ev k (by omega)]
  simp only [Option.bind_some, decide_eq_true_eq]
  by_cases hf : Fr u d
  · rw [if_pos hf, impl_isDance_ev]
    simp only [Option.bind_some, decide_eq_true_eq]
    by_cases h : Dn s
    · rw [if_pos h, if_pos ⟨hf, h⟩, impl_danced_ev k hk u d s (by have := h.2; omega) hf]; rfl
    · rw [if_neg h, if_neg (fun x => h x.2)]
  · rw [if_neg hf, if_neg (fun x => hf x.1)]
theorem spec_l2Move_ev (k : Nat) (hk : 1000003 ≤ k) (f : Int × Int) (c : UInt8) (hf : Fr f.1 f.2) : spec_l2Move.f k f.1 f.2 (c.toNat : Int) = some (dR (mvO f c)) := by
  unfold spec_l2Move.f
  have tw : ∀ n : Int, Pt n → mvO f c = plusO f n → ((spec_PlusOf.f k f.1 f.2 n).bind fun x => some (x.1, x.2.1, x.2.2)) = some (dR (mvO f c)) := by
    intro n hn hm
    rw [spec_PlusOf_ev k (by omega), if_pos ⟨hf, hn⟩, pl_plusO, hm]; rfl
  by_cases c1 : (c.toNat : Int) = 84
  · rw [if_pos c1]; exact tw 1 pt1.1 (mvO_84 f c c1)
  · rw [if_neg c1]
    by_cases c2 : (c.toNat : Int) = 116
    · rw [if_pos c2]; exact tw (-1) pt1.2 (mvO_116 f c c2)
    · rw [if_neg c2, spec_OverOf_ev k hk, if_pos hf, mvO_else f c c1 c2, spec_FractionOk_ev k (by omega)]
      simp only [Option.bind_some, decide_eq_true hf]
      rfl
theorem spec_DancedFrom_l0 (s : ByteArray) (h40 : s.size ≤ 2000) (d : Nat) : ∀ (k : Nat) (i : Nat) (f : Int × Int), d + 1000010 ≤ k → i + d = s.size → Fr f.1 f.2 → spec_DancedFrom.l0 k s (i : Int) f.1 f.2 = some (dR (dnc f (s.data.toList.drop i))) := by
  have hsz : s.data.toList.length = s.size := by simp
  induction d with
  | zero =>
    intro k i f hk hd hf
    obtain ⟨k, rfl⟩ : ∃ m, k = m + 1 := ⟨k - 1, by omega⟩
    simp only [spec_DancedFrom.l0]
    rw [if_neg (by omega), List.drop_eq_nil_of_le (by omega)]; rfl
  | succ d ih =>
    intro k i f hk hd hf
    obtain ⟨k, rfl⟩ : ∃ m, k = m + 1 := ⟨k - 1, by omega⟩
    have hi : i < s.data.toList.length := by omega
    have hb' : bt s (i : Int) = (s.data.toList[i].toNat : Int) := bt_get s (i : Int) (by omega) (by omega)
    have e1 : ((i : Int) + 1) = ((i + 1 : Nat) : Int) := by omega
    simp only [spec_DancedFrom.l0]
    rw [if_pos (by omega), if_pos (by omega), w64 (by omega), hb', e1, List.drop_eq_getElem_cons hi]
    generalize s.data.toList[i] = c
    show _ = some (dR ((mvO f c).bind fun g => dnc g (List.drop (i + 1) s.data.toList)))
    rw [spec_l2Move_ev k (by omega) f c hf]
    simp only [Option.bind_some]
    cases hm : mvO f c with
    | none => rfl
    | some g => exact ih k (i + 1) g (by omega) (by omega) (mvO_fr hf hm)
theorem spec_DancedFrom_ev (k : Nat) (u d : Int) (s : ByteArray) (hk : s.size + 1000200 ≤ k) (hn : s.size ≤ 1000000000) : spec_DancedFrom.f k u d s = some (if Fr u d ∧ Dn s then dR (dnc (u, d) s.data.toList) else (0, 0, false)) := by
  unfold spec_DancedFrom.f
  obtain ⟨k, rfl⟩ : ∃ m, k = m + 1 := ⟨k - 1, by omega⟩
  rw [spec_FractionOk_ev (k + 1) (by omega)]
  simp only [Option.bind_some, spec_DancedFrom.j0]
  rw [spec_DanceOk_ev (k + 1) s (by omega) hn]
  simp only [Option.bind_some]
  by_cases h : Dn s
  · rw [decide_eq_true h, if_pos rfl]
    by_cases hf : Fr u d
    · rw [decide_eq_true hf, if_neg (by simp), if_pos ⟨hf, h⟩]
      have := h.2
      exact spec_DancedFrom_l0 s (by omega) s.size k 0 (u, d) (by omega) (by omega) hf
    · rw [decide_eq_false hf, if_pos (by simp), if_neg (fun x => hf x.1)]
  · have hn2 : ¬ (Fr u d ∧ Dn s) := fun x => h x.2
    rw [decide_eq_false h, if_neg hn2]
    simp
theorem FnDancedFrom (l0 : List Int) (hw : ∀ x ∈ l0, (Lit.int .u8 x).wf = true) : ∃ k, laws_FnDancedFrom.f k l0 = some true := by
  refine ⟨3000001, ?_⟩
  unfold laws_FnDancedFrom.f
  by_cases h : (l0.length : Int) > 1048576
  · rw [if_pos h]
  · rw [if_neg h]
    unfold spec_DrawDancedFrom.f
    obtain ⟨m, e, hm⟩ := open_ev l0 hw
    rw [e]
    simp only [Option.bind_some]
    obtain ⟨u, d, p1, e1, h1, h2, _⟩ := fraction_ev 3000001 (by omega) m hm 0 12 (by omega) (by omega)
    rw [e1]
    simp only [Option.bind_some]
    obtain ⟨s, p', e2, _, _, hs⟩ := dance_ev 3000001 m hm p1 12 12 (by decide) (by omega) (by omega) (by omega)
    have hs' : s.size ≤ 2000 := by have : (12 : Int).toNat = 12 := rfl; omega
    rw [e2]
    simp only [Option.bind_some]
    rw [impl_DancedFrom_ev _ (by omega), spec_DancedFrom_ev _ u d s (by omega) (by omega)]
    simp only [Option.bind_some]
    rw [if_neg (by simp)]
    rw [show ∀ x : Bool, (x != x) = false from fun x => by cases x <;> rfl]
    simp only [laws_FnDancedFrom.j0]
    rw [if_neg (by simp)]
    by_cases hD : Fr u d ∧ Dn s
    · rw [if_pos hD]
      cases hg : dnc (u, d) s.data.toList with
      | none => simp [dR, alive_ev]
      | some g =>
        have hok : (dR (some g)).2.2 = true := rfl
        have hsz : s.data.toList.length = s.size := by simp
        have hgF : Fr g.1 g.2 := dnc_fr _ (show Fr ((u, d) : Int × Int).1 ((u, d) : Int × Int).2 from hD.1) hg
        have hcf : CF g := Fr.cf hgF
        have d1 : Dn (⟨#[82, 82]⟩ : ByteArray) := by decide
        have d2 : Dn (⟨#[84, 82, 84, 82, 84, 82]⟩ : ByteArray) := by decide
        have y1 : Fr (dR (some g)).1 (dR (some g)).2.1 ∧ Dn (⟨#[82, 82]⟩ : ByteArray) := ⟨hgF, d1⟩
        have y2 : Fr (dR (some g)).1 (dR (some g)).2.1 ∧ Dn (⟨#[84, 82, 84, 82, 84, 82]⟩ : ByteArray) := ⟨hgF, d2⟩
        have hD' : Dn (ofL (backL s.data.toList)) := ⟨by rw [ofL_data]; exact dok_backL _ hD.2.1, by rw [ofL_size, backL_len, hsz]; exact hD.2.2⟩
        have y3 : Fr (dR (some g)).1 (dR (some g)).2.1 ∧ Dn (ofL (backL s.data.toList)) := ⟨hgF, hD'⟩
        have v1 : dnc ((dR (some g)).1, (dR (some g)).2.1) (⟨#[82, 82]⟩ : ByteArray).data.toList = some g := by
          show (mvO g 82).bind (fun x => (mvO x 82).bind fun y => some y) = some g
          rw [mvO_R, Option.bind_some, mvO_R, ovr_ovr hgF]; rfl
        have v3 : dnc ((dR (some g)).1, (dR (some g)).2.1) (ofL (backL s.data.toList)).data.toList = some (u, d) := by
          rw [ofL_data]
          exact dnc_back _ (show Fr ((u, d) : Int × Int).1 ((u, d) : Int × Int).2 from hD.1) hD.2.1 hg
        rw [if_pos hok, impl_DancedFrom_ev _ (by omega), if_pos y1, v1]
        simp only [Option.bind_some]
        rw [impl_DancedFrom_ev _ (by omega), if_pos y2]
        simp only [Option.bind_some]
        rw [impl_BackOf_ev _ s (by omega), if_pos hD.2]
        simp only [Option.bind_some]
        rw [impl_DancedFrom_ev _ (by omega), if_pos y3, v3]
        simp only [Option.bind_some]
        rw [impl_FractionOk_ev _ (by omega), decide_eq_true y1.1]
        simp only [Option.bind_some]
        cases hq : dnc ((dR (some g)).1, (dR (some g)).2.1) (⟨#[84, 82, 84, 82, 84, 82]⟩ : ByteArray).data.toList with
        | none => simp [dR]
        | some q =>
          have eq := dnc_tot _ hq
          have e3 : totL g [84, 82, 84, 82, 84, 82] = g := tot_three hcf
          have : q = g := eq.trans e3
          rw [this]
          simp [dR]
    · rw [if_neg hD]
      simp [alive_ev]
end Go.Proofs.YtcahmfhlmclgkaaDoor.Pure
