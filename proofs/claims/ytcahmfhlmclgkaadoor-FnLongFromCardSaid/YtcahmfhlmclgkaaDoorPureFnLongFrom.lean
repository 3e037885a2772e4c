/- What the walked law FnLongFrom computes, answers true. -/
import Derived.Test.YtcahmfhlmclgkaaDoorCFnLongFrom
import Derived.OpenShut
namespace Go.Proofs.YtcahmfhlmclgkaaDoor.Pure
open Go.RowKit Go.Proofs.YtcahmfhlmclgkaaDoor.PFnLongFrom Go.Proofs.YtcahmfhlmclgkaaDoorW.PrintWords Go.Proofs.YtcahmfhlmclgkaaDoorW.PrintLast Go.Proofs.YtcahmfhlmclgkaaDoorW.PrintMore
set_option linter.unusedVariables false
set_option linter.unusedSimpArgs false
theorem st {P : Prop} [Decidable P] (h : P) : some true = some (decide P) := by simp [h]
theorem sf {P : Prop} [Decidable P] (h : ¬P) : some false = some (decide P) := by simp [h]
theorem sd {P Q : Prop} [Decidable P] [Decidable Q] (h : P ↔ Q) : some (decide P) = some (decide Q) := by simp [h]
theorem w64 {n : Int} (h : -9223372036854775808 ≤ n ∧ n ≤ 9223372036854775807) : wrap64 n = n := by unfold wrap64; omega
def Fr (u d : Int) : Prop := -1000000 ≤ u ∧ u ≤ 1000000 ∧ 0 ≤ d ∧ d ≤ 1000000 ∧ (d = 0 → u = 1) ∧ (Int.gcd u d = 1)
instance (u d : Int) : Decidable (Fr u d) := by unfold Fr; exact inferInstance
def Pt (n : Int) : Prop := -1000000 ≤ n ∧ n ≤ 1000000
instance (n : Int) : Decidable (Pt n) := by unfold Pt; exact inferInstance
theorem gcd_step (a b : Int) : Int.gcd b (Int.tmod a b) = Int.gcd a b := by
  unfold Int.gcd
  rw [Int.natAbs_tmod, Nat.gcd_comm a.natAbs b.natAbs, Nat.gcd_rec b.natAbs a.natAbs, Nat.gcd_comm]
theorem tmod_lt (a b : Int) (h : b ≠ 0) : (Int.tmod a b).natAbs < b.natAbs := by
  rw [Int.natAbs_tmod]
  exact Nat.mod_lt _ (by omega)
theorem tdiv_le (a b : Int) : (Int.tdiv a b).natAbs ≤ a.natAbs := by
  rw [Int.natAbs_tdiv]
  exact Nat.div_le_self _ _
theorem tdiv_w (a b : Int) (h : -1000000 ≤ a ∧ a ≤ 1000000) : wrap64 (Int.tdiv a b) = Int.tdiv a b := by
  have := tdiv_le a b
  exact w64 (by omega)
theorem gcd_le_pt (a b : Int) (ha : Pt a) (hb : Pt b) : (Int.gcd a b : Int) ≤ 1000000 := by
  unfold Pt at ha hb
  by_cases h : a = 0
  · subst h
    rw [Int.zero_gcd]
    omega
  · have := Int.gcd_le_natAbs_left b h
    omega
theorem gcd_pos (a b : Int) (h : ¬(a = 0 ∧ b = 0)) : 0 < Int.gcd a b := by
  rcases Nat.eq_zero_or_pos (Int.gcd a b) with h' | h'
  · exact absurd (Int.gcd_eq_zero_iff.mp h') h
  · exact h'
def sg (u d : Int) : Int := if d < 0 ∨ (d = 0 ∧ u < 0) then -(Int.gcd u d : Int) else (Int.gcd u d : Int)
def lowU (u d : Int) : Int := Int.tdiv u (sg u d)
def lowD (u d : Int) : Int := Int.tdiv d (sg u d)
theorem mulb {a b : Int} (ha : Pt a) (hb : Pt b) : -1000000000000 ≤ a * b ∧ a * b ≤ 1000000000000 := by
  unfold Pt at ha hb
  have h1 : a.natAbs ≤ 1000000 := by omega
  have h2 : b.natAbs ≤ 1000000 := by omega
  have := Nat.mul_le_mul h1 h2
  rw [← Int.natAbs_mul] at this
  omega
theorem wmul {a b : Int} (ha : Pt a) (hb : Pt b) : wrap64 (a * b) = a * b := by
  have := mulb ha hb
  exact w64 (by omega)
theorem Fr.pu {u d : Int} (h : Fr u d) : Pt u := ⟨h.1, h.2.1⟩
theorem Fr.pd {u d : Int} (h : Fr u d) : Pt d := by unfold Fr at h; unfold Pt; omega
theorem Fr.ne {u d : Int} (h : Fr u d) : ¬(-d = 0 ∧ u = 0) := by
  unfold Fr at h; omega
theorem Fr.wn {u d : Int} (h : Fr u d) : wrap64 (-d) = -d := by
  unfold Fr at h; exact w64 (by omega)
theorem Fr.pn {u d : Int} (h : Fr u d) : Pt (-d) := by
  unfold Fr at h; unfold Pt; omega
def ovU (u d : Int) : Int := if u ≤ 0 then d else -d
def ovD (u : Int) : Int := if u ≤ 0 then -u else u
theorem low_one {u d : Int} (h : Int.gcd u d = 1) : lowU u d = (if d < 0 ∨ (d = 0 ∧ u < 0) then -u else u) ∧ lowD u d = (if d < 0 ∨ (d = 0 ∧ u < 0) then -d else d) := by
  unfold lowU lowD sg
  rw [h]
  split
  · simp
  · simp
theorem low_over {u d : Int} (h : Fr u d) : lowU (-d) u = ovU u d ∧ lowD (-d) u = ovD u := by
  have hg : Int.gcd (-d) u = 1 := by rw [Int.neg_gcd, Int.gcd_comm]; exact h.2.2.2.2.2
  obtain ⟨e1, e2⟩ := low_one hg
  rw [e1, e2]
  unfold Fr at h
  unfold ovU ovD
  by_cases h1 : u < 0
  · rw [if_pos (Or.inl h1), if_pos (Or.inl h1), if_pos (by omega), if_pos (by omega)]; omega
  · by_cases h2 : u = 0
    · have : d = 1 ∨ d ≠ 1 := by omega
      have hd : 0 < d := by omega
      rw [if_pos (Or.inr ⟨h2, by omega⟩), if_pos (Or.inr ⟨h2, by omega⟩), if_pos (by omega), if_pos (by omega)]; omega
    · rw [if_neg (by omega), if_neg (by omega), if_neg (by omega), if_neg (by omega)]; omega
theorem Fr.over {u d : Int} (h : Fr u d) : Fr (ovU u d) (ovD u) := by
  have hn := h.ne
  have hg := h.2.2.2.2.2
  have hc : Int.gcd d u = 1 := by rw [Int.gcd_comm]; exact hg
  unfold Fr at h
  unfold ovU ovD
  by_cases h1 : u ≤ 0
  · rw [if_pos h1, if_pos h1]
    exact ⟨by omega, by omega, by omega, by omega, fun x => by
      have hu : u = 0 := by omega
      subst hu
      rw [Int.gcd_zero_right] at hc
      omega, by rw [Int.gcd_neg]; exact hc⟩
  · rw [if_neg h1, if_neg h1]
    exact ⟨by omega, by omega, by omega, by omega, by omega, by rw [Int.neg_gcd]; exact hc⟩
def pl (u d n : Int) : Int × Int × Bool := if Fr (u + n * d) d then (u + n * d, d, true) else (0, 0, false)
theorem wplus {u d n : Int} (hu : Pt u) (hd : Pt d) (hn : Pt n) : wrap64 (u + wrap64 (n * d)) = u + n * d := by
  have := mulb hn hd
  rw [wmul hn hd]
  unfold Pt at hu
  exact w64 (by omega)
def t2 (n : Int) : Bool := decide (2 ≤ n ∧ n ≤ 60)
def ofL (l : List UInt8) : ByteArray := ⟨l.toArray⟩
theorem ofL_size (l : List UInt8) : (ofL l).size = l.length := by simp [ofL, ByteArray.size]
theorem ofL_app (l m : List UInt8) : ofL l ++ ofL m = ofL (l ++ m) := by
  apply ByteArray.ext; simp [ofL]
theorem ofL_data (l : List UInt8) : (ofL l).data.toList = l := by simp [ofL]
theorem bt_get (s : ByteArray) (i : Int) (h0 : 0 ≤ i) (h : i.toNat < s.size) : bt s i = (s.data.toList[i.toNat]'(by simpa using h)).toNat := by
  unfold bt
  rw [dif_pos h]
  rfl
def mv (c : UInt8) : Bool := c == 84 || c == 116 || c == 82
def dok (l : List UInt8) : Bool := l.all mv
theorem mv_iff (c : UInt8) : mv c = true ↔ ((c.toNat : Int) = 84 ∨ (c.toNat : Int) = 116 ∨ (c.toNat : Int) = 82) := by
  unfold mv
  simp only [Bool.or_eq_true, beq_iff_eq]
  have e1 : (84 : UInt8).toNat = 84 := rfl
  have e2 : (116 : UInt8).toNat = 116 := rfl
  have e3 : (82 : UInt8).toNat = 82 := rfl
  rw [← UInt8.toNat_inj, ← UInt8.toNat_inj, ← UInt8.toNat_inj, e1, e2, e3]
  omega
def Dn (s : ByteArray) : Prop := dok s.data.toList = true ∧ s.size ≤ 40
instance (s : ByteArray) : Decidable (Dn s) := by unfold Dn; exact inferInstance
theorem u8_eq (c : UInt8) (n : Nat) (hn : n < 256) : ((c.toNat : Int) = (n : Int)) ↔ c = UInt8.ofNat n := by
  constructor
  · intro h
    have : c.toNat = n := by omega
    rw [← UInt8.toNat_inj, this]
    simp
    omega
  · intro h
    rw [h]
    simp
    omega
theorem impl_isPart_ev (n : Int) : impl_isPart.f n = some (decide (Pt n)) := by
  unfold impl_isPart.f Pt
  split
  · exact sd (by omega)
  · exact sf (by omega)
theorem spec_l1In_ev (n a b : Int) : spec_l1In.f n a b = some (decide (a ≤ n ∧ n ≤ b)) := by
  unfold spec_l1In.f
  split
  · exact sd (by omega)
  · exact sf (by omega)
theorem impl_gcd_l0 (n : Nat) : ∀ (k : Nat) (a b : Int), b.natAbs ≤ n → n < k → a.natAbs ≤ 4611686018427387904 → b.natAbs ≤ 4611686018427387904 → impl_gcd.l0 k a b = some (Int.gcd a b : Int) := by
  induction n with
  | zero =>
    intro k a b hb hk ha _
    obtain ⟨k, rfl⟩ : ∃ m, k = m + 1 := ⟨k - 1, by omega⟩
    have hb0 : b = 0 := by omega
    simp only [impl_gcd.l0]
    rw [if_pos hb0, w64 (by omega), hb0, Int.gcd_zero_right]
    unfold mx; congr 1; split <;> omega
  | succ n ih =>
    intro k a b hb hk ha hb'
    obtain ⟨k, rfl⟩ : ∃ m, k = m + 1 := ⟨k - 1, by omega⟩
    simp only [impl_gcd.l0]
    by_cases h : b = 0
    · rw [if_pos h, w64 (by omega), h, Int.gcd_zero_right]
      unfold mx; congr 1; split <;> omega
    · rw [if_neg h]
      have := tmod_lt a b h
      rw [ih k b (Int.tmod a b) (by omega) (by omega) (by omega) (by omega), gcd_step]
theorem impl_gcd_ev (k : Nat) (hk : 1000002 ≤ k) (a b : Int) (ha : Pt a) (hb : Pt b) : impl_gcd.f k a b = some (Int.gcd a b : Int) := by
  unfold Pt at ha hb
  exact impl_gcd_l0 1000001 k a b (by omega) (by omega) (by omega) (by omega)
theorem spec_l1Common_l0 (n : Nat) : ∀ (k : Nat) (a b : Int), 0 ≤ a → 0 ≤ b → b.natAbs ≤ n → n < k → spec_l1Common.l0 k a b = some (Int.gcd a b : Int) := by
  induction n with
  | zero =>
    intro k a b ha hb0 hb hk
    obtain ⟨k, rfl⟩ : ∃ m, k = m + 1 := ⟨k - 1, by omega⟩
    have hb0 : b = 0 := by omega
    subst hb0
    simp only [spec_l1Common.l0]
    rw [if_neg (by omega), Int.gcd_zero_right]
    congr 1; omega
  | succ n ih =>
    intro k a b ha hb0 hb hk
    obtain ⟨k, rfl⟩ : ∃ m, k = m + 1 := ⟨k - 1, by omega⟩
    simp only [spec_l1Common.l0]
    by_cases h : b = 0
    · subst h
      rw [if_neg (by omega), Int.gcd_zero_right]
      congr 1; omega
    · rw [if_pos (by omega), if_neg h]
      have := tmod_lt a b h
      have h2 := Int.tmod_nonneg b ha
      rw [ih k b (Int.tmod a b) hb0 h2 (by omega) (by omega), gcd_step]
theorem mx_abs (a : Int) (h : Pt a) : mx a (wrap64 (-a)) = (a.natAbs : Int) := by
  unfold Pt at h
  rw [w64 (by omega)]
  unfold mx; split <;> omega
theorem spec_l1Common_ev (k : Nat) (hk : 1000002 ≤ k) (a b : Int) (ha : Pt a) (hb : Pt b) : spec_l1Common.f k a b = some (Int.gcd a b : Int) := by
  unfold spec_l1Common.f
  rw [mx_abs a ha, mx_abs b hb, spec_l1Common_l0 1000001 k _ _ (by omega) (by omega) (by unfold Pt at hb; omega) (by omega)]
  rfl
theorem impl_isFraction_ev (k : Nat) (hk : 1000002 ≤ k) (u d : Int) : impl_isFraction.f k u d = some (decide (Fr u d)) := by
  unfold impl_isFraction.f
  simp only [impl_isPart_ev, Option.bind_some, decide_eq_true_eq]
  by_cases hu : Pt u
  · rw [if_pos hu]
    by_cases h1 : d < 0
    · rw [if_pos h1]; exact sf (by intro h; unfold Fr at h; omega)
    · rw [if_neg h1]
      by_cases h2 : d > 1000000
      · rw [if_pos h2]; exact sf (by intro h; unfold Fr at h; omega)
      · rw [if_neg h2]
        have hd : Pt d := by unfold Pt; omega
        rw [impl_gcd_ev k hk u d hu hd]
        unfold Pt at hu
        have e : ((Int.gcd u d : Int) == 1) = decide (Int.gcd u d = 1) := by rw [Bool.eq_iff_iff]; simp; omega
        simp only [Option.bind_some, e]
        by_cases h3 : d = 0
        · rw [if_pos h3]
          by_cases h4 : u = 1
          · rw [if_pos h4]; exact sd (by unfold Fr; omega)
          · rw [if_neg h4]; exact sf (by intro h; unfold Fr at h; omega)
        · rw [if_neg h3]; exact sd (by unfold Fr; omega)
  · rw [if_neg hu]; exact sf (by intro h; unfold Fr at h; unfold Pt at hu; omega)
theorem impl_FractionOk_ev (k : Nat) (hk : 1000002 ≤ k) (u d : Int) : impl_FractionOk.f k u d = some (decide (Fr u d)) := by
  unfold impl_FractionOk.f
  rw [impl_isFraction_ev k hk]; rfl
theorem spec_FractionOk_ev (k : Nat) (hk : 1000002 ≤ k) (u d : Int) : spec_FractionOk.f k u d = some (decide (Fr u d)) := by
  unfold spec_FractionOk.f
  simp only [spec_l1In_ev, Option.bind_some, decide_eq_true_eq]
  by_cases hu : -1000000 ≤ u ∧ u ≤ 1000000
  · rw [if_pos hu]
    by_cases hd : 0 ≤ d ∧ d ≤ 1000000
    · rw [if_pos hd, spec_l1Common_ev k hk u d hu (by unfold Pt; omega)]
      simp only [Option.bind_some]
      by_cases h1 : (Int.gcd u d : Int) = 1
      · rw [if_pos h1]
        by_cases h3 : d > 0
        · rw [if_pos h3]; exact st (by unfold Fr; omega)
        · rw [if_neg h3]
          have e : (u == 1) = decide (u = 1) := by rw [Bool.eq_iff_iff]; simp
          rw [e]; exact sd (by unfold Fr; omega)
      · rw [if_neg h1]; exact sf (by intro h; unfold Fr at h; omega)
    · rw [if_neg hd]; exact sf (by intro h; unfold Fr at h; omega)
  · rw [if_neg hu]; exact sf (by intro h; unfold Fr at h; omega)
theorem impl_lowest_ev (k : Nat) (hk : 1000002 ≤ k) (u d : Int) (hu : Pt u) (hd : Pt d) (h : ¬(u = 0 ∧ d = 0)) : impl_lowest.f k u d = some (lowU u d, lowD u d) := by
  unfold impl_lowest.f
  rw [impl_gcd_ev k hk u d hu hd]
  simp only [Option.bind_some]
  have hg := gcd_pos u d h
  have hl := gcd_le_pt u d hu hd
  have e1 : wrap64 (-(Int.gcd u d : Int)) = -(Int.gcd u d : Int) := w64 (by omega)
  unfold lowU lowD sg
  rw [e1]
  simp only [tdiv_w _ _ hu, tdiv_w _ _ hd]
  by_cases h1 : d < 0
  · rw [if_pos h1, if_neg (by omega), if_pos (by omega)]
  · rw [if_neg h1]
    by_cases h2 : d = 0
    · rw [if_pos h2]
      by_cases h3 : u < 0
      · rw [if_pos h3, if_neg (by omega), if_pos (by omega)]
      · rw [if_neg h3, if_neg (by omega), if_neg (by omega)]
    · rw [if_neg h2, if_neg (by omega), if_neg (by omega)]
theorem impl_lowest_over (k : Nat) (hk : 1000002 ≤ k) {u d : Int} (h : Fr u d) : impl_lowest.f k (wrap64 (-d)) u = some (ovU u d, ovD u) := by
  rw [h.wn, impl_lowest_ev k hk _ _ h.pn h.pu h.ne, (low_over h).1, (low_over h).2]
theorem spec_LowestOf_ev (k : Nat) (hk : 1000003 ≤ k) (u d : Int) : spec_LowestOf.f k u d = some (if Pt u ∧ Pt d ∧ ¬(u = 0 ∧ d = 0) then (lowU u d, lowD u d, true) else (0, 0, false)) := by
  obtain ⟨k, rfl⟩ : ∃ m, k = m + 1 := ⟨k - 1, by omega⟩
  have jt : spec_LowestOf.j0 (k + 1) u d true = some (0, 0, false) := by simp only [spec_LowestOf.j0]; rw [if_pos trivial]
  have jf : Pt u → Pt d → ¬(u = 0 ∧ d = 0) → spec_LowestOf.j0 (k + 1) u d false = some (lowU u d, lowD u d, true) := by
    intro hu hd h
    simp only [spec_LowestOf.j0]
    rw [if_neg (by simp), spec_l1Common_ev k (by omega) u d hu hd]
    simp only [Option.bind_some]
    have hg := gcd_pos u d h
    have hl := gcd_le_pt u d hu hd
    have e1 : wrap64 (-(Int.gcd u d : Int)) = -(Int.gcd u d : Int) := w64 (by omega)
    unfold lowU lowD sg
    rw [e1]
    simp only [tdiv_w _ _ hu, tdiv_w _ _ hd]
    by_cases h1 : d < 0
    · rw [if_pos h1, if_neg (by omega), if_pos (by omega)]
    · rw [if_neg h1]
      by_cases h2 : d = 0
      · rw [if_pos h2]
        by_cases h3 : u < 0
        · rw [if_pos h3, if_neg (by omega), if_pos (by omega)]
        · rw [if_neg h3, if_neg (by omega), if_neg (by omega)]
      · rw [if_neg h2, if_neg (by omega), if_neg (by omega)]
  have pt : ∀ n : Int, (-1000000 ≤ n ∧ n ≤ 1000000) ↔ Pt n := fun n => Iff.rfl
  unfold spec_LowestOf.f
  simp only [spec_l1In_ev, Option.bind_some, decide_eq_true_eq, pt]
  by_cases hu : Pt u
  · rw [if_pos hu]
    by_cases hd : Pt d
    · rw [if_pos hd]
      by_cases h : u = 0 ∧ d = 0
      · rw [if_pos h.1, if_neg (fun x => x.2.2 h)]
        have : (d == 0) = true := by simpa using h.2
        rw [this]; exact jt
      · have hp : Pt u ∧ Pt d ∧ ¬(u = 0 ∧ d = 0) := ⟨hu, hd, h⟩
        rw [if_pos hp]
        by_cases h1 : u = 0
        · rw [if_pos h1]
          have : (d == 0) = false := by simpa using (by omega : ¬ d = 0)
          rw [this]; exact jf hu hd h
        · rw [if_neg h1]; exact jf hu hd h
    · rw [if_neg hd, if_neg (fun x => hd x.2.1)]; exact jt
  · rw [if_neg hu, if_neg (fun x => hu x.1)]; exact jt
theorem spec_OverOf_ev (k : Nat) (hk : 1000003 ≤ k) (u d : Int) : spec_OverOf.f k u d = some (if Fr u d then (ovU u d, ovD u) else (0, 0)) := by
  unfold spec_OverOf.f
  simp only [spec_FractionOk_ev k (by omega), Option.bind_some, decide_eq_true_eq]
  by_cases h : Fr u d
  · rw [if_pos h, if_pos h, h.wn, spec_LowestOf_ev k hk, if_pos ⟨h.pn, h.pu, h.ne⟩]
    simp only [Option.bind_some, (low_over h).1, (low_over h).2]
  · rw [if_neg h, if_neg h]
theorem spec_PlusOf_ev (k : Nat) (hk : 1000002 ≤ k) (u d n : Int) : spec_PlusOf.f k u d n = some (if Fr u d ∧ Pt n then pl u d n else (0, 0, false)) := by
  have pt : ∀ n : Int, (-1000000 ≤ n ∧ n ≤ 1000000) ↔ Pt n := fun n => Iff.rfl
  unfold spec_PlusOf.f
  simp only [spec_FractionOk_ev k hk, spec_l1In_ev, Option.bind_some, decide_eq_true_eq, pt]
  by_cases h : Fr u d
  · rw [if_pos h]
    by_cases hn : Pt n
    · have hp : Fr u d ∧ Pt n := ⟨h, hn⟩
      rw [if_pos hn, if_pos hp, wplus h.pu h.pd hn]
      unfold pl
      split <;> rfl
    · rw [if_neg hn, if_neg (fun x => hn x.2)]
  · rw [if_neg h, if_neg (fun x => h x.1)]
theorem impl_plus_ev (k : Nat) (hk : 1000002 ≤ k) (u d n : Int) (h : Fr u d) (hn : Pt n) : impl_plus.f k u d n = some (pl u d n) := by
  unfold impl_plus.f
  rw [wplus h.pu h.pd hn, impl_isFraction_ev k hk]
  unfold pl
  simp only [Option.bind_some, decide_eq_true_eq]
  split <;> rfl
def Bs (l : List Int) : Prop := l.length ≤ 2000 ∧ ∀ i, 0 ≤ rd l i ∧ rd l i ≤ 255
theorem xor_nn (a b : Int) (ha : 0 ≤ a ∧ a ≤ 4611686018427387903) (hb : 0 ≤ b ∧ b ≤ 4611686018427387903) : 0 ≤ Go.bits .xor .i64 a b := by
  obtain ⟨m, rfl⟩ : ∃ m : Nat, a = m := ⟨a.toNat, by omega⟩
  obtain ⟨n, rfl⟩ : ∃ m : Nat, b = m := ⟨b.toNat, by omega⟩
  have hm : m < 2 ^ 62 := by omega
  have hn : n < 2 ^ 62 := by omega
  have hx := Nat.xor_lt_two_pow hm hn
  have e1 : m % 2 ^ IntKind.i64.bits = m := Nat.mod_eq_of_lt (Nat.lt_trans hm (by decide))
  have e2 : n % 2 ^ IntKind.i64.bits = n := Nat.mod_eq_of_lt (Nat.lt_trans hn (by decide))
  simp only [Go.bits, BitVec.ofInt_natCast, BitVec.toNat_xor, BitVec.toNat_ofNat, e1, e2]
  have e3 := IntKind.wrap_i64 ((m ^^^ n : Nat) : Int)
  rw [e3]
  omega
theorem tmod_rng (a n : Int) (ha : 0 ≤ a) (hn : 1 ≤ n) : 0 ≤ Int.tmod a n ∧ Int.tmod a n < n := ⟨Int.tmod_nonneg n ha, Int.tmod_lt_of_pos a (by omega)⟩
theorem pick_ev (k : Nat) (hk : 1 ≤ k) (l : List Int) (hl : Bs l) (p n : Int) (hp : 0 ≤ p ∧ p ≤ 1000000) (hn : n ≤ 10000000) :
    ∃ r, spec_l20Rd_pick.f k l p n = some (r, p + 1) ∧ 0 ≤ r ∧ (1 ≤ n → r < n) ∧ (n < 1 → r = 0) := by
  obtain ⟨k, rfl⟩ : ∃ m, k = m + 1 := ⟨k - 1, by omega⟩
  unfold spec_l20Rd_pick.f
  have e0 : wrap64 (p + 1) = p + 1 := w64 (by omega)
  have e1 : wrap64 (p + 1 - 1) = p := by rw [w64 (by omega)]; omega
  rw [e0]
  by_cases h1 : n < 1
  · rw [if_pos h1]
    simp only [spec_l20Rd_pick.j0]
    rw [if_pos trivial]
    exact ⟨0, rfl, by omega, by omega, fun _ => rfl⟩
  · rw [if_neg h1]
    simp only [spec_l20Rd_pick.j0]
    by_cases h2 : (l.length : Int) = 0
    · rw [if_pos (by simpa using h2)]
      exact ⟨0, rfl, by omega, by omega, fun _ => rfl⟩
    · rw [if_neg (by simpa using h2), e1]
      have hn0 : ¬ n = 0 := by omega
      by_cases h3 : p < (l.length : Int)
      · rw [if_pos h3, if_pos hp.1, if_neg hn0]
        have hr := hl.2 p
        rw [w64 (by omega : -9223372036854775808 ≤ rd l p ∧ _)]
        have := tmod_rng (rd l p) n (by omega) (by omega)
        exact ⟨_, rfl, this.1, fun _ => this.2, by omega⟩
      · rw [if_neg h3, if_neg h2]
        have t1 := tmod_rng p (l.length : Int) hp.1 (by omega)
        have e7 : wrap64 (wrap64 (p * 7) + 3) = p * 7 + 3 := by rw [w64 (by omega : -9223372036854775808 ≤ p * 7 ∧ _), w64 (by omega)]
        rw [e7]
        have t2 := tmod_rng (p * 7 + 3) (l.length : Int) (by omega) (by omega)
        rw [if_pos t1.1, if_pos t1.2, if_pos t2.1, if_pos t2.2, if_neg hn0]
        have r1 := hl.2 (Int.tmod p (l.length : Int))
        have r2 := hl.2 (Int.tmod (p * 7 + 3) (l.length : Int))
        generalize rd l (Int.tmod p (l.length : Int)) = a at r1 ⊢
        generalize rd l (Int.tmod (p * 7 + 3) (l.length : Int)) = b at r2 ⊢
        have q0 := tdiv_le p (l.length : Int)
        have q1 : 0 ≤ Int.tdiv p (l.length : Int) := Int.tdiv_nonneg hp.1 (by omega)
        generalize Int.tdiv p (l.length : Int) = q at q0 q1 ⊢
        have e2 : wrap64 a = a := w64 (by omega)
        have e3 : wrap64 b = b := w64 (by omega)
        have e4 : wrap64 q = q := w64 (by omega)
        rw [e2, e3, e4]
        have e5 : wrap64 (a * 131) = a * 131 := w64 (by omega)
        have e6 : wrap64 (b * 1117) = b * 1117 := w64 (by omega)
        have e8 : wrap64 (q * 53) = q * 53 := w64 (by omega)
        have e9 : wrap64 (p * 29) = p * 29 := w64 (by omega)
        rw [e5, e6, e8, e9]
        have e10 : wrap64 (a * 131 + b * 1117) = a * 131 + b * 1117 := w64 (by omega)
        rw [e10]
        have e11 : wrap64 (a * 131 + b * 1117 + p * 29) = a * 131 + b * 1117 + p * 29 := w64 (by omega)
        rw [e11]
        have e12 : wrap64 (a * 131 + b * 1117 + p * 29 + q * 53) = a * 131 + b * 1117 + p * 29 + q * 53 := w64 (by omega)
        rw [e12]
        have hX : 0 ≤ a * 131 + b * 1117 + p * 29 + q * 53 ∧ a * 131 + b * 1117 + p * 29 + q * 53 ≤ 4611686018427387903 := by omega
        generalize a * 131 + b * 1117 + p * 29 + q * 53 = X at hX ⊢
        have q2 := tdiv_le X 64
        have q3 : 0 ≤ Int.tdiv X 64 := Int.tdiv_nonneg hX.1 (by omega)
        have e13 : wrap64 (Int.tdiv X 64) = Int.tdiv X 64 := w64 (by omega)
        rw [e13]
        have := tmod_rng _ n (xor_nn X (Int.tdiv X 64) hX (by omega)) (by omega)
        exact ⟨_, rfl, this.1, fun _ => this.2, by omega⟩
theorem odd_ev (k : Nat) (hk : 1 ≤ k) (l : List Int) (hl : Bs l) (p n : Int) (hp : 0 ≤ p ∧ p ≤ 1000000) (hn : n ≤ 10000000) :
    ∃ b p', spec_l20Rd_odd.f k l p n = some (b, p') ∧ p ≤ p' ∧ p' ≤ p + 1 := by
  unfold spec_l20Rd_odd.f
  by_cases h : n > 0
  · rw [if_pos h]
    obtain ⟨r, e, _⟩ := pick_ev k hk l hl p n hp hn
    rw [e]
    exact ⟨_, _, rfl, by omega, by omega⟩
  · rw [if_neg h]; exact ⟨_, _, rfl, by omega, by omega⟩
theorem open_ev (l : List Int) (hw : ∀ x ∈ l, (Lit.int .u8 x).wf = true) : ∃ m, spec_l20Open.f l = some (m, 0) ∧ Bs m := by
  have key : ∀ m : List Int, m.length ≤ 2000 → (∀ x ∈ m, x ∈ l) → Bs m := by
    intro m hm hs
    refine ⟨hm, fun i => ?_⟩
    unfold rd
    by_cases h : i.toNat < m.length
    · have : m.getD i.toNat 0 = m[i.toNat] := by simp [h]
      rw [this]
      have h1 := hw _ (hs _ (List.getElem_mem h))
      simp [Lit.wf, IntKind.min, IntKind.max, IntKind.signed, IntKind.bits] at h1
      omega
    · have : m.getD i.toNat 0 = 0 := by simp [Nat.le_of_not_lt h]
      rw [this]; omega
  unfold spec_l20Open.f
  by_cases h : (l.length : Int) > 2000
  · rw [if_pos h, if_pos (by omega)]
    exact ⟨_, rfl, key _ (by simp; omega) (fun x hx => List.mem_of_mem_take hx)⟩
  · rw [if_neg h]
    exact ⟨_, rfl, key _ (by omega) (fun x hx => hx)⟩
def Bd (n : Int) : Prop := -2000000 ≤ n ∧ n ≤ 2000000
theorem low_bd {u d : Int} (hu : Pt u) (hd : Pt d) : Bd (lowU u d) ∧ Bd (lowD u d) := by
  have h1 := tdiv_le u (sg u d)
  have h2 := tdiv_le d (sg u d)
  unfold Pt at hu hd
  unfold Bd lowU lowD
  omega
theorem fraction_ev (k : Nat) (hk : 1000004 ≤ k) (l : List Int) (hl : Bs l) (p n : Int) (hp : 0 ≤ p ∧ p ≤ 900000) (hn : n ≤ 10000000) :
    ∃ u d p', spec_l20Fraction.f k l p n = some (u, d, p') ∧ p ≤ p' ∧ p' ≤ p + 10 ∧ Bd u ∧ Bd d := by
  have j : ∀ (k : Nat) (p u d : Int), 2 ≤ k → 0 ≤ p → p ≤ 900010 → Bd u → Bd d → ∃ u' d' p', spec_l20Fraction.j0 k n l p u d = some (u', d', p') ∧ p ≤ p' ∧ p' ≤ p + 2 ∧ Bd u' ∧ Bd d' := by
    intro k p u d hk h0 h1 hu hd
    obtain ⟨k, rfl⟩ : ∃ m, k = m + 1 := ⟨k - 1, by omega⟩
    simp only [spec_l20Fraction.j0]
    obtain ⟨b, p', e, h2, h3⟩ := odd_ev k (by omega) l hl p n (by omega) hn
    rw [e]
    simp only [Option.bind_some]
    by_cases hb : b = true
    · rw [if_pos hb]
      obtain ⟨r, e2, h4, h5, _⟩ := pick_ev k (by omega) l hl p' 5 (by omega) (by omega)
      rw [e2]
      simp only [Option.bind_some]
      have h6 := h5 (by omega)
      rw [if_pos h4, if_pos (by simp only [List.length_cons, List.length_nil]; omega)]
      refine ⟨_, _, _, rfl, by omega, by omega, ?_⟩
      have : r = 0 ∨ r = 1 ∨ r = 2 ∨ r = 3 ∨ r = 4 := by omega
      unfold Bd
      rcases this with rfl | rfl | rfl | rfl | rfl <;> decide
    · rw [if_neg hb]
      exact ⟨_, _, _, rfl, by omega, by omega, hu, hd⟩
  unfold spec_l20Fraction.f
  simp only [Option.bind_some]
  obtain ⟨r, e1, h1, h2, _⟩ := pick_ev k (by omega) l hl p 4 (by omega) (by omega)
  rw [e1]
  simp only [Option.bind_some]
  have h3 := h2 (by omega)
  rw [if_pos h1, if_pos (by simp only [List.length_cons, List.length_nil]; omega)]
  have hh : 1 ≤ rd [4, 10, 50, 1000] r ∧ rd [4, 10, 50, 1000] r ≤ 1000 := by
    have : r = 0 ∨ r = 1 ∨ r = 2 ∨ r = 3 := by omega
    rcases this with rfl | rfl | rfl | rfl <;> decide
  generalize rd [4, 10, 50, 1000] r = hi at hh ⊢
  obtain ⟨a, e2, a1, a2, _⟩ := pick_ev k (by omega) l hl (p + 1) hi (by omega) (by omega)
  rw [e2]
  simp only [Option.bind_some]
  obtain ⟨b, e3, b1, b2, _⟩ := pick_ev k (by omega) l hl (p + 1 + 1) hi (by omega) (by omega)
  rw [e3]
  simp only [Option.bind_some]
  obtain ⟨c, e4, c1, c2, _⟩ := pick_ev k (by omega) l hl (p + 1 + 1 + 1) hi (by omega) (by omega)
  rw [e4]
  simp only [Option.bind_some]
  have a3 := a2 (by omega)
  have b3 := b2 (by omega)
  have c3 := c2 (by omega)
  rw [w64 (by omega), spec_LowestOf_ev k (by omega)]
  simp only [Option.bind_some]
  by_cases hz : Pt (a - b) ∧ Pt c ∧ ¬(a - b = 0 ∧ c = 0)
  · rw [if_pos hz, if_pos rfl]
    obtain ⟨u, d, p', e, q1, q2, q3⟩ := j k (p + 1 + 1 + 1 + 1) _ _ (by omega) (by omega) (by omega) (low_bd hz.1 hz.2.1).1 (low_bd hz.1 hz.2.1).2
    exact ⟨u, d, p', e, by omega, by omega, q3⟩
  · rw [if_neg hz, if_neg (by simp)]
    obtain ⟨u, d, p', e, q1, q2, q3⟩ := j k (p + 1 + 1 + 1 + 1) 1 0 (by omega) (by omega) (by omega) (by unfold Bd; omega) (by unfold Bd; omega)
    exact ⟨u, d, p', e, by omega, by omega, q3⟩
theorem alive_ev (k : Nat) (hk : 1000002 ≤ k) : laws_alive.f k = some true := by
  unfold laws_alive.f
  simp only [impl_FractionOk_ev k hk, Option.bind_some]
  decide
theorem spec_DanceOk_l0 (s : ByteArray) (hn : s.size ≤ 1000000000) (d : Nat) : ∀ (k : Nat) (i : Int), 0 ≤ i → i + d = s.size → d < k → spec_DanceOk.l0 k s i = some (decide (dok (s.data.toList.drop i.toNat) = true ∧ s.size ≤ 40)) := by
  have hsz : s.data.toList.length = s.size := by simp
  induction d with
  | zero =>
    intro k i h0 hd hk
    obtain ⟨k, rfl⟩ : ∃ m, k = m + 1 := ⟨k - 1, by omega⟩
    simp only [spec_DanceOk.l0]
    rw [if_neg (by omega), List.drop_eq_nil_of_le (by omega)]
    exact sd ⟨fun x => ⟨rfl, by omega⟩, fun x => by omega⟩
  | succ d ih =>
    intro k i h0 hd hk
    obtain ⟨k, rfl⟩ : ∃ m, k = m + 1 := ⟨k - 1, by omega⟩
    simp only [spec_DanceOk.l0]
    have h1 : i.toNat < s.size := by omega
    have h2 : i.toNat < s.data.toList.length := by omega
    rw [if_pos (by omega), if_pos h0, w64 (by omega), ih k (i + 1) (by omega) (by omega) (by omega)]
    have e : (i + 1).toNat = i.toNat + 1 := by omega
    rw [e, bt_get s i h0 h1, List.drop_eq_getElem_cons h2]
    generalize s.data.toList[i.toNat] = c
    have hm := mv_iff c
    have hc : dok (c :: List.drop (i.toNat + 1) s.data.toList) = (mv c && dok (List.drop (i.toNat + 1) s.data.toList)) := rfl
    rw [hc]
    by_cases c1 : (c.toNat : Int) = 84
    · rw [if_pos c1]; have : mv c = true := hm.2 (Or.inl c1); rw [this, Bool.true_and]
    · rw [if_neg c1]
      by_cases c2 : (c.toNat : Int) = 116
      · rw [if_pos c2]; have : mv c = true := hm.2 (Or.inr (Or.inl c2)); rw [this, Bool.true_and]
      · rw [if_neg c2]
        by_cases c3 : (c.toNat : Int) = 82
        · rw [if_pos c3]; have : mv c = true := hm.2 (Or.inr (Or.inr c3)); rw [this, Bool.true_and]
        · rw [if_neg c3]
          have : mv c = false := by
            rcases Bool.eq_false_or_eq_true (mv c) with h | h
            · have := hm.1 h; omega
            · exact h
          rw [this, Bool.false_and]
          exact sf (by simp)
theorem spec_DanceOk_ev (k : Nat) (s : ByteArray) (hk : s.size < k) (hn : s.size ≤ 1000000000) : spec_DanceOk.f k s = some (decide (Dn s)) := by
  unfold spec_DanceOk.f
  rw [spec_DanceOk_l0 s hn s.size k 0 (by omega) (by omega) hk]
  rfl
theorem rdOf_sz (L : List ByteArray) (h : ∀ x ∈ L, x.size ≤ 50) (r : Int) : (rdOf ByteArray.empty L r).size ≤ 50 := by
  unfold rdOf
  by_cases hr : r.toNat < L.length
  · have : L.getD r.toNat ByteArray.empty = L[r.toNat] := by simp [hr]
    rw [this]
    exact h _ (List.getElem_mem hr)
  · have : L.getD r.toNat ByteArray.empty = ByteArray.empty := by simp [Nat.le_of_not_lt hr]
    rw [this]
    decide
theorem dance_ev (k : Nat) (l : List Int) (hl : Bs l) (p a n : Int) (hk : a.toNat + 4 < k) (hp : 0 ≤ p ∧ p ≤ 900000) (ha : 0 ≤ a ∧ a ≤ 1000) (hn : n ≤ 10000000) :
    ∃ s p', spec_l20Dance.f k l p a n = some (s, p') ∧ p ≤ p' ∧ p' ≤ p + a + 5 ∧ s.size ≤ 50 * a.toNat + 50 := by
  have j : ∀ (d : Nat) (k : Nat) (s : ByteArray) (p : Int), d + 2 < k → 0 ≤ p → p + d ≤ 901010 → s.size + 50 * d ≤ 100000 → ∃ t p', spec_l20Dance.l0 k n s (d : Int) l p = some (t, p') ∧ p ≤ p' ∧ p' ≤ p + d + 2 ∧ t.size ≤ s.size + 50 * d + 50 := by
    intro d
    induction d with
    | zero =>
      intro k s p hk h0 h1 hs
      obtain ⟨k, rfl⟩ : ∃ m, k = m + 1 := ⟨k - 1, by omega⟩
      simp only [spec_l20Dance.l0]
      rw [if_neg (by omega)]
      obtain ⟨b, p', e, h2, h3⟩ := odd_ev k (by omega) l hl p n (by omega) hn
      rw [e]
      simp only [Option.bind_some]
      by_cases hb : b = true
      · rw [if_pos hb]
        obtain ⟨r, e2, h4, h5, _⟩ := pick_ev k (by omega) l hl p' 3 (by omega) (by omega)
        rw [e2]
        simp only [Option.bind_some]
        have h6 := h5 (by omega)
        rw [if_pos h4, if_pos (by simp only [List.length_cons, List.length_nil]; omega)]
        split
        · exact ⟨_, _, rfl, by omega, by omega, by rw [ByteArray.size_append]; exact Nat.le_trans (Nat.add_le_add_left (rdOf_sz _ (by decide) r) _) (by omega)⟩
        · rename_i hc
          exact absurd (Nat.le_trans (Nat.add_le_add_left (rdOf_sz _ (by decide) r) _) (by omega)) hc
      · rw [if_neg hb]
        exact ⟨_, _, rfl, by omega, by omega, by omega⟩
    | succ d ih =>
      intro k s p hk h0 h1 hs
      obtain ⟨k, rfl⟩ : ∃ m, k = m + 1 := ⟨k - 1, by omega⟩
      simp only [spec_l20Dance.l0]
      rw [if_pos (by omega)]
      simp only [Option.bind_some]
      obtain ⟨r, e2, h4, h5, _⟩ := pick_ev k (by omega) l hl p 6 (by omega) (by omega)
      rw [e2]
      simp only [Option.bind_some]
      have h6 := h5 (by omega)
      rw [if_pos h4, if_pos (by simp only [List.length_cons, List.length_nil]; omega), if_pos (Nat.le_trans (Nat.add_le_add_left (rdOf_sz _ (by decide) r) _) (by omega)), w64 (by omega)]
      have h7 := rdOf_sz [(⟨#[84]⟩ : ByteArray), (⟨#[84]⟩ : ByteArray), (⟨#[82]⟩ : ByteArray), (⟨#[116]⟩ : ByteArray), (⟨#[82]⟩ : ByteArray), (⟨#[84]⟩ : ByteArray)] (by decide) r
      have e3 : ((d + 1 : Nat) : Int) - 1 = (d : Int) := by omega
      rw [e3]
      obtain ⟨t, p', e4, h8, h9, h10⟩ := ih k (s ++ rdOf ByteArray.empty [(⟨#[84]⟩ : ByteArray), (⟨#[84]⟩ : ByteArray), (⟨#[82]⟩ : ByteArray), (⟨#[116]⟩ : ByteArray), (⟨#[82]⟩ : ByteArray), (⟨#[84]⟩ : ByteArray)] r) (p + 1) (by omega) (by omega) (by omega) (by rw [ByteArray.size_append]; omega)
      rw [ByteArray.size_append] at h10
      exact ⟨t, p', e4, by omega, by omega, by omega⟩
  unfold spec_l20Dance.f
  rw [w64 (by omega)]
  obtain ⟨r, e1, h1, h2, _⟩ := pick_ev k (by omega) l hl p (a + 1) (by omega) (by omega)
  rw [e1]
  simp only [Option.bind_some]
  have h3 := h2 (by omega)
  obtain ⟨d, rfl⟩ : ∃ d : Nat, r = d := ⟨r.toNat, by omega⟩
  obtain ⟨t, p', e4, h8, h9, h10⟩ := j d k (⟨#[]⟩ : ByteArray) (p + 1) (by omega) (by omega) (by omega) (by show 0 + 50 * d ≤ 100000; omega)
  have e0 : (⟨#[]⟩ : ByteArray).size = 0 := rfl
  rw [e0] at h10
  exact ⟨t, p', e4, by omega, by omega, by omega⟩
theorem impl_isSmall_ev (k : Nat) (hk : 1000002 ≤ k) (u d n : Int) (hn : 0 ≤ n ∧ n ≤ 1000000) : impl_isSmall.f k u d n = some (decide (Fr u d ∧ -n ≤ u ∧ u ≤ n ∧ d ≤ n)) := by
  unfold impl_isSmall.f
  rw [impl_isFraction_ev k hk, w64 (by omega)]
  simp only [Option.bind_some, decide_eq_true_eq]
  by_cases h : Fr u d
  · rw [if_pos h]
    by_cases h1 : u ≥ -n
    · rw [if_pos h1]
      by_cases h2 : u ≤ n
      · rw [if_pos h2]; exact sd ⟨fun x => ⟨h, h1, h2, x⟩, fun x => x.2.2.2⟩
      · rw [if_neg h2]; exact sf (fun x => h2 x.2.2.1)
    · rw [if_neg h1]; exact sf (fun x => h1 x.2.1)
  · rw [if_neg h]; exact sf (fun x => h x.1)
def unL : Nat → Int → Int → List UInt8
  | 0, _, _ => []
  | n + 1, u, d => if u = 0 then [] else if u < 0 then 84 :: unL n (u + d) d else 82 :: unL n (ovU u d) (ovD u)
def Sm (u d : Int) : Prop := Fr u d ∧ -12 ≤ u ∧ u ≤ 12 ∧ d ≤ 12
def Mu (u d : Int) : Int := if u = 0 then 0 else if u < 0 then 30 * d - u + 1 else 30 * u + d + 2
theorem Sm.t {u d : Int} (h : Sm u d) (hu : u < 0) : Sm (u + d) d ∧ 0 ≤ Mu (u + d) d ∧ Mu (u + d) d < Mu u d := by
  obtain ⟨hf, h1, h2, h3⟩ := h
  have hg := hf.2.2.2.2.2
  have hd : 0 < d := by unfold Fr at hf; omega
  refine ⟨⟨?_, by omega, by omega, h3⟩, ?_⟩
  · unfold Fr at hf ⊢
    have e := Int.gcd_add_mul_right_left d u 1
    rw [Int.one_mul] at e
    exact ⟨by omega, by omega, by omega, by omega, by omega, by rw [e]; exact hg⟩
  · unfold Mu
    rw [if_neg (by omega : ¬ u = 0), if_pos hu]
    by_cases c1 : u + d = 0
    · rw [if_pos c1]; omega
    · rw [if_neg c1]
      by_cases c2 : u + d < 0
      · rw [if_pos c2]; omega
      · rw [if_neg c2]; omega
theorem Sm.r {u d : Int} (h : Sm u d) (hu : 0 < u) : Sm (ovU u d) (ovD u) ∧ 0 ≤ Mu (ovU u d) (ovD u) ∧ Mu (ovU u d) (ovD u) < Mu u d := by
  obtain ⟨hf, h1, h2, h3⟩ := h
  have hd : 0 ≤ d := hf.2.2.1
  have ho := hf.over
  have e1 : ovU u d = -d := by unfold ovU; rw [if_neg (by omega)]
  have e2 : ovD u = u := by unfold ovD; rw [if_neg (by omega)]
  rw [e1, e2] at ho ⊢
  refine ⟨⟨ho, by omega, by omega, by omega⟩, ?_⟩
  unfold Mu
  rw [if_neg (by omega : ¬ u = 0), if_neg (by omega : ¬ u < 0)]
  by_cases c1 : -d = 0
  · rw [if_pos c1]; omega
  · rw [if_neg c1, if_pos (by omega)]; omega
theorem Sm.mu {u d : Int} (h : Sm u d) : 0 ≤ Mu u d ∧ Mu u d ≤ 400 := by
  obtain ⟨hf, h1, h2, h3⟩ := h
  have hd : 0 ≤ d := hf.2.2.1
  unfold Mu
  split
  · omega
  · split <;> omega
theorem spec_untied_l0 (n : Nat) : ∀ (k : Nat) (l : List UInt8) (u d : Int), 1000010 + n ≤ k → Sm u d → Mu u d < n → l.length + n ≤ 100000 → spec_UntiedOf.l0 k (ofL l) u d = some (ofL (l ++ unL n u d), true) := by
  induction n with
  | zero => intro k l u d hk hs hm; have := hs.mu; omega
  | succ n ih =>
    intro k l u d hk hs hm hl
    obtain ⟨k, rfl⟩ : ∃ m, k = m + 1 := ⟨k - 1, by omega⟩
    simp only [spec_UntiedOf.l0, unL]
    by_cases h0 : u = 0
    · rw [if_pos h0, if_pos h0]; simp
    · rw [if_neg h0, if_neg h0]
      have hsz := ofL_size l
      by_cases h1 : u < 0
      · rw [if_pos h1, if_pos h1]
        obtain ⟨s1, s2, s3⟩ := hs.t h1
        have e : ofL l ++ (⟨#[84]⟩ : ByteArray) = ofL (l ++ [84]) := ofL_app l [84]
        have hp : Fr u d ∧ Pt 1 := ⟨hs.1, by decide⟩
        rw [spec_PlusOf_ev k (by omega), if_pos hp]
        unfold pl
        rw [Int.one_mul, if_pos s1.1]
        simp only [Option.bind_some]
        rw [if_pos (by omega), e, ih k _ _ _ (by omega) s1 (by omega) (by simp; omega)]
        simp
      · rw [if_neg h1, if_neg h1]
        obtain ⟨s1, s2, s3⟩ := hs.r (by omega)
        have e : ofL l ++ (⟨#[82]⟩ : ByteArray) = ofL (l ++ [82]) := ofL_app l [82]
        rw [spec_OverOf_ev k (by omega), if_pos hs.1]
        simp only [Option.bind_some]
        rw [if_pos (by omega), e, ih k _ _ _ (by omega) s1 (by omega) (by simp; omega)]
        simp
def unW (u d : Int) : List UInt8 := unL 401 u d
instance (u d : Int) : Decidable (Sm u d) := by unfold Sm; exact inferInstance
theorem spec_UntiedOf_ev (k : Nat) (hk : 1000500 ≤ k) (u d : Int) : spec_UntiedOf.f k u d = some (if Sm u d then (ofL (unW u d), true) else (ofL [], false)) := by
  unfold spec_UntiedOf.f
  obtain ⟨k, rfl⟩ : ∃ m, k = m + 1 := ⟨k - 1, by omega⟩
  have jt : spec_UntiedOf.j0 (k + 1) true u d = some (ofL [], false) := by simp only [spec_UntiedOf.j0]; rw [if_pos trivial]; rfl
  simp only [spec_FractionOk_ev (k + 1) (by omega), spec_l1In_ev, Option.bind_some, decide_eq_true_eq]
  by_cases h1 : Fr u d
  · rw [if_pos h1]
    by_cases h2 : -12 ≤ u ∧ u ≤ 12
    · rw [if_pos h2]
      by_cases h3 : d > 12
      · rw [decide_eq_true h3, jt, if_neg (by intro x; have := x.2.2.2; omega)]
      · have hs : Sm u d := ⟨h1, h2.1, h2.2, by omega⟩
        rw [decide_eq_false h3, if_pos hs]
        simp only [spec_UntiedOf.j0]
        rw [if_neg (by simp)]
        have := spec_untied_l0 401 k [] u d (by omega) hs (by have := hs.mu; omega) (by simp)
        exact this
    · rw [if_neg h2, jt, if_neg (fun x => h2 ⟨x.2.1, x.2.2.1⟩)]
  · rw [if_neg h1, jt, if_neg (fun x => h1 x.1)]
def ovr (f : Int × Int) : Int × Int := (ovU f.1 f.2, ovD f.1)
def plusO (f : Int × Int) (n : Int) : Option (Int × Int) := if Fr (f.1 + n * f.2) f.2 then some (f.1 + n * f.2, f.2) else none
def mvO (f : Int × Int) (c : UInt8) : Option (Int × Int) := if c = 84 then plusO f 1 else if c = 116 then plusO f (-1) else some (ovr f)
def dnc : (Int × Int) → List UInt8 → Option (Int × Int)
  | f, [] => some f
  | f, c :: l => (mvO f c).bind fun g => dnc g l
theorem dnc_app (l m : List UInt8) : ∀ f, dnc f (l ++ m) = (dnc f l).bind fun g => dnc g m := by
  induction l with
  | nil => intro f; rfl
  | cons c l ih =>
    intro f
    show (mvO f c).bind (fun g => dnc g (l ++ m)) = ((mvO f c).bind fun g => dnc g l).bind fun g => dnc g m
    cases mvO f c with
    | none => rfl
    | some g => exact ih g
theorem plusO_fr {f g : Int × Int} {n : Int} (h : plusO f n = some g) : Fr g.1 g.2 ∧ g = (f.1 + n * f.2, f.2) := by
  unfold plusO at h
  split at h
  · have e := Option.some.inj h
    rw [← e]
    exact ⟨by assumption, rfl⟩
  · cases h
theorem mvO_fr {f g : Int × Int} {c : UInt8} (hf : Fr f.1 f.2) (h : mvO f c = some g) : Fr g.1 g.2 := by
  unfold mvO at h
  split at h
  · exact (plusO_fr h).1
  · split at h
    · exact (plusO_fr h).1
    · have e := Option.some.inj h
      rw [← e]
      exact hf.over
theorem mvO_T (f : Int × Int) : mvO f 84 = plusO f 1 := by unfold mvO; rw [if_pos rfl]
theorem mvO_t (f : Int × Int) : mvO f 116 = plusO f (-1) := by unfold mvO; rw [if_neg (by decide), if_pos rfl]
theorem dok_cons (c : UInt8) (l : List UInt8) : dok (c :: l) = (mv c && dok l) := rfl
theorem dok_app (l m : List UInt8) : dok (l ++ m) = (dok l && dok m) := by unfold dok; rw [List.all_append]
theorem ext_one (s : ByteArray) (i : Nat) (h : i < s.data.toList.length) : s.extract i (i + 1) = ofL [s.data.toList[i]] := by
  have hsz : s.data.toList.length = s.size := by simp
  apply ByteArray.ext
  simp [ofL]
  apply Array.ext
  · simp
    have e : s.data.size = s.size := rfl
    omega
  · intro j h1 h2
    simp at h2
    simp [h2]
theorem impl_areMoves_ev (s : ByteArray) (hn : s.size ≤ 1000000000) : impl_areMoves.f s = some (dok s.data.toList) := by
  unfold impl_areMoves.f; rw [if_pos (by omega)]; rfl
theorem impl_isDance_ev (s : ByteArray) : impl_isDance.f s = some (decide (Dn s)) := by
  unfold impl_isDance.f
  by_cases h : (s.size : Int) ≤ 40
  · rw [if_pos h, impl_areMoves_ev s (by omega)]
    show some (dok s.data.toList) = _
    congr 1
    by_cases hd : dok s.data.toList = true
    · rw [hd, decide_eq_true (show Dn s from ⟨hd, by omega⟩)]
    · rw [decide_eq_false (show ¬ Dn s from fun x => hd x.1)]; simpa using hd
  · rw [if_neg h, decide_eq_false (fun x => h (by have := x.2; omega))]
def dR (o : Option (Int × Int)) : Int × Int × Bool := match o with | some f => (f.1, f.2, true) | none => (0, 0, false)
theorem pl_plusO (u d n : Int) : pl u d n = dR (plusO (u, d) n) := by
  unfold pl plusO
  by_cases h : Fr (u + n * d) d
  · rw [if_pos h, if_pos h]; rfl
  · rw [if_neg h, if_neg h]; rfl
theorem pt1 : Pt 1 ∧ Pt (-1) := by unfold Pt; omega
theorem mvO_84 (f : Int × Int) (c : UInt8) (h : (c.toNat : Int) = 84) : mvO f c = plusO f 1 := by rw [(u8_eq c 84 (by omega)).1 h]; exact mvO_T f
theorem mvO_116 (f : Int × Int) (c : UInt8) (h : (c.toNat : Int) = 116) : mvO f c = plusO f (-1) := by rw [(u8_eq c 116 (by omega)).1 h]; exact mvO_t f
theorem mvO_else (f : Int × Int) (c : UInt8) (h : ¬(c.toNat : Int) = 84) (h2 : ¬(c.toNat : Int) = 116) : mvO f c = some (ovr f) := by
  have g1 : ¬ c = 84 := fun x => h ((u8_eq c 84 (by omega)).2 x)
  have g2 : ¬ c = 116 := fun x => h2 ((u8_eq c 116 (by omega)).2 x)
  unfold mvO
  rw [if_neg g1, if_neg g2]
theorem impl_danced_l0 (s : ByteArray) (h40 : s.size ≤ 2000) (d : Nat) : ∀ (k : Nat) (i : Nat) (f : Int × Int), d + 1000010 ≤ k → i + d = s.size → Fr f.1 f.2 → impl_danced.l0 k s (s.size : Int) (i : Int) f.1 f.2 = some (dR (dnc f (s.data.toList.drop i))) := by
  have hsz : s.data.toList.length = s.size := by simp
  induction d with
  | zero =>
    intro k i f hk hd hf
    obtain ⟨k, rfl⟩ : ∃ m, k = m + 1 := ⟨k - 1, by omega⟩
    simp only [impl_danced.l0]
    rw [if_neg (by omega), List.drop_eq_nil_of_le (by omega)]; rfl
  | succ d ih =>
    intro k i f hk hd hf
    obtain ⟨k, rfl⟩ : ∃ m, k = m + 1 := ⟨k - 1, by omega⟩
    have hi : i < s.data.toList.length := by omega
    have hb' : bt s (i : Int) = (s.data.toList[i].toNat : Int) := bt_get s (i : Int) (by omega) (by omega)
    have e1 : ((i : Int) + 1) = ((i + 1 : Nat) : Int) := by omega
    simp only [impl_danced.l0]
    rw [if_pos (by omega), if_pos (by omega), if_pos (by omega), w64 (by omega), hb', e1, List.drop_eq_getElem_cons hi]
    generalize s.data.toList[i] = c
    show _ = some (dR ((mvO f c).bind fun g => dnc g (List.drop (i + 1) s.data.toList)))
    have tw : ∀ n : Int, Pt n → mvO f c = plusO f n → ((impl_plus.f k f.1 f.2 n).bind fun bt149 => (if bt149.2.2 = true then (impl_danced.l0 k s (s.size : Int) ((i + 1 : Nat) : Int) bt149.1 bt149.2.1) else (some (0, 0, false)))) = some (dR ((mvO f c).bind fun g => dnc g (List.drop (i + 1) s.data.toList))) := by
      intro n hn hm
      rw [impl_plus_ev k (by omega) f.1 f.2 n hf hn, pl_plusO, hm]
      cases hp : plusO (f.1, f.2) n with
      | none => rfl
      | some g => exact ih k (i + 1) g (by omega) (by omega) (plusO_fr hp).1
    by_cases c1 : (c.toNat : Int) = 84
    · rw [if_pos c1]; exact tw 1 pt1.1 (mvO_84 f c c1)
    · rw [if_neg c1]
      by_cases c2 : (c.toNat : Int) = 116
      · rw [if_pos c2]; exact tw (-1) pt1.2 (mvO_116 f c c2)
      · rw [if_neg c2, impl_lowest_over k (by omega) hf, mvO_else f c c1 c2]
        exact ih k (i + 1) (ovr f) (by omega) (by omega) hf.over
theorem impl_danced_ev (k : Nat) (hk : 1002100 ≤ k) (u d : Int) (s : ByteArray) (h40 : s.size ≤ 2000) (hf : Fr u d) : impl_danced.f k u d s = some (dR (dnc (u, d) s.data.toList)) :=
  impl_danced_l0 s h40 s.size k 0 (u, d) (by omega) (by omega) hf
theorem impl_DancedFrom_ev (k : Nat) (hk : 1002100 ≤ k) (u d : Int) (s : ByteArray) : impl_DancedFrom.f k u d s = some (if Fr u d ∧ Dn s then dR (dnc (u, d) s.data.toList) else (0, 0, false)) := by
  unfold impl_DancedFrom.f
  rw [impl_isFraction_ev k (by omega)]
  simp only [Option.bind_some, decide_eq_true_eq]
  by_cases hf : Fr u d
  · rw [if_pos hf, impl_isDance_ev]
    simp only [Option.bind_some, decide_eq_true_eq]
    by_cases h : Dn s
    · rw [if_pos h, if_pos ⟨hf, h⟩, impl_danced_ev k hk u d s (by have := h.2; omega) hf]; rfl
    · rw [if_neg h, if_neg (fun x => h x.2)]
  · rw [if_neg hf, if_neg (fun x => hf x.1)]
theorem spec_l2Move_ev (k : Nat) (hk : 1000003 ≤ k) (f : Int × Int) (c : UInt8) (hf : Fr f.1 f.2) : spec_l2Move.f k f.1 f.2 (c.toNat : Int) = some (dR (mvO f c)) := by
  unfold spec_l2Move.f
  have tw : ∀ n : Int, Pt n → mvO f c = plusO f n → ((spec_PlusOf.f k f.1 f.2 n).bind fun x => some (x.1, x.2.1, x.2.2)) = some (dR (mvO f c)) := by
    intro n hn hm
    rw [spec_PlusOf_ev k (by omega), if_pos ⟨hf, hn⟩, pl_plusO, hm]; rfl
  by_cases c1 : (c.toNat : Int) = 84
  · rw [if_pos c1]; exact tw 1 pt1.1 (mvO_84 f c c1)
  · rw [if_neg c1]
    by_cases c2 : (c.toNat : Int) = 116
    · rw [if_pos c2]; exact tw (-1) pt1.2 (mvO_116 f c c2)
    · rw [if_neg c2, spec_OverOf_ev k hk, if_pos hf, mvO_else f c c1 c2, spec_FractionOk_ev k (by omega)]
      simp only [Option.bind_some, decide_eq_true hf]
      rfl
def Lg (u d : Int) (s : ByteArray) : Prop := Fr u d ∧ -1000 ≤ u ∧ u ≤ 1000 ∧ d ≤ 1000 ∧ s.size ≤ 1000
instance (u d : Int) (s : ByteArray) : Decidable (Lg u d s) := by unfold Lg; exact inferInstance
def lgR (u d : Int) (s : ByteArray) : Int × Int × Bool := if Lg u d s ∧ dok s.data.toList = true then dR (dnc (u, d) s.data.toList) else (0, 0, false)
theorem impl_LongFrom_ev (k : Nat) (hk : 1002100 ≤ k) (u d : Int) (s : ByteArray) : impl_LongFrom.f k u d s = some (lgR u d s) := by
  unfold impl_LongFrom.f lgR
  rw [impl_isSmall_ev k (by omega) u d 1000 (by omega)]
  simp only [Option.bind_some, decide_eq_true_eq]
  by_cases hs : (s.size : Int) > 1000
  · have hn : ¬(Lg u d s ∧ dok s.data.toList = true) := fun x => by have := x.1.2.2.2.2; omega
    rw [if_pos hs, if_neg hn]
    split <;> rfl
  · rw [if_neg hs]
    rw [impl_areMoves_ev s (by omega)]
    simp only [Option.bind_some]
    split
    · rename_i h
      by_cases hd : dok s.data.toList = true
      · have hy : Lg u d s ∧ dok s.data.toList = true := ⟨⟨h.1, by omega, by omega, by omega, by omega⟩, hd⟩
        rw [if_pos hd, if_pos hy, impl_danced_ev k hk u d s (by omega) h.1]
        rfl
      · have hn : ¬(Lg u d s ∧ dok s.data.toList = true) := fun x => hd x.2
        rw [if_neg hd, if_neg hn]
    · rename_i h
      have hn : ¬(Lg u d s ∧ dok s.data.toList = true) := fun x => h ⟨x.1.1, by have := x.1.2; omega⟩
      rw [if_neg hn]
theorem spec_LongFrom_l0 (s : ByteArray) (hn : s.size ≤ 1000) (d : Nat) : ∀ (k : Nat) (i : Nat) (f : Int × Int), d + 1000100 ≤ k → i + d = s.size → Fr f.1 f.2 → spec_LongFrom.l0 k s (i : Int) f.1 f.2 = some (if dok (s.data.toList.drop i) = true then dR (dnc f (s.data.toList.drop i)) else (0, 0, false)) := by
  have hsz : s.data.toList.length = s.size := by simp
  induction d with
  | zero =>
    intro k i f hk hd hf
    obtain ⟨k, rfl⟩ : ∃ m, k = m + 1 := ⟨k - 1, by omega⟩
    simp only [spec_LongFrom.l0]
    rw [if_neg (by omega), List.drop_eq_nil_of_le (by omega)]; rfl
  | succ d ih =>
    intro k i f hk hd hf
    obtain ⟨k, rfl⟩ : ∃ m, k = m + 1 := ⟨k - 1, by omega⟩
    have hi : i < s.data.toList.length := by omega
    have hb' : bt s (i : Int) = (s.data.toList[i].toNat : Int) := bt_get s (i : Int) (by omega) (by omega)
    have hx := ext_one s i hi
    have e1 : ((i : Int) + 1) = ((i + 1 : Nat) : Int) := by omega
    simp only [spec_LongFrom.l0]
    rw [if_pos (by omega), if_pos (by omega), w64 (by omega), if_pos (by omega), if_pos (by omega), hb', e1, Int.toNat_natCast, Int.toNat_natCast, hx, List.drop_eq_getElem_cons hi]
    generalize s.data.toList[i] = c
    have hs1 : (ofL [c]).size = 1 := by rw [ofL_size]; rfl
    rw [spec_DanceOk_ev k _ (by omega) (by omega)]
    have hdc : Dn (ofL [c]) ↔ mv c = true := by
      unfold Dn
      rw [ofL_data, hs1, dok_cons]
      simp [dok]
    rw [Option.bind_some, spec_l2Move_ev k (by omega) f c hf, dok_cons]
    by_cases hc : mv c = true
    · rw [decide_eq_true (hdc.2 hc), if_pos rfl, hc, Bool.true_and]
      show _ = some (if dok (List.drop (i + 1) s.data.toList) = true then dR ((mvO f c).bind fun g => dnc g (List.drop (i + 1) s.data.toList)) else (0, 0, false))
      cases hm : mvO f c with
      | none =>
        have : (if dok (List.drop (i + 1) s.data.toList) = true then dR ((none : Option (Int × Int)).bind fun g => dnc g (List.drop (i + 1) s.data.toList)) else (0, 0, false)) = (0, 0, false) := by split <;> rfl
        rw [this]; rfl
      | some g => exact ih k (i + 1) g (by omega) (by omega) (mvO_fr hf hm)
    · have hc' : mv c = false := by simpa using hc
      rw [decide_eq_false (fun x => hc (hdc.1 x)), if_neg (by simp), hc', Bool.false_and, if_neg (by simp)]
theorem spec_LongFrom_ev (k : Nat) (u d : Int) (s : ByteArray) (hk : 1002300 ≤ k) : spec_LongFrom.f k u d s = some (lgR u d s) := by
  unfold spec_LongFrom.f lgR
  obtain ⟨k, rfl⟩ : ∃ m, k = m + 1 := ⟨k - 1, by omega⟩
  rw [spec_FractionOk_ev (k + 1) (by omega), spec_l1In_ev]
  simp only [Option.bind_some, spec_LongFrom.j0]
  have tt : (true = true) = True := eq_self true
  by_cases hf : Fr u d
  · rw [decide_eq_true hf, if_pos rfl]
    by_cases hu : -1000 ≤ u ∧ u ≤ 1000
    · rw [decide_eq_true hu, if_pos rfl]
      by_cases hd : d > 1000
      · have hn : ¬(Lg u d s ∧ dok s.data.toList = true) := fun x => by have := x.1.2.2.2.1; omega
        rw [if_pos hd, if_neg hn]; simp
      · rw [if_neg hd]
        by_cases hs : (s.size : Int) > 1000
        · have hn : ¬(Lg u d s ∧ dok s.data.toList = true) := fun x => by have := x.1.2.2.2.2; omega
          rw [decide_eq_true hs, if_pos rfl, if_neg hn]
        · rw [decide_eq_false hs, if_neg (by simp)]
          have hL : Lg u d s := ⟨hf, by omega, by omega, by omega, by omega⟩
          have e := spec_LongFrom_l0 s (by omega) s.size k 0 (u, d) (by omega) (by omega) hf
          have e' : spec_LongFrom.l0 k s 0 u d = some (if dok s.data.toList = true then dR (dnc (u, d) s.data.toList) else (0, 0, false)) := e
          rw [e']
          by_cases hk : dok s.data.toList = true
          · rw [if_pos hk, if_pos ⟨hL, hk⟩]
          · rw [if_neg hk, if_neg (fun x => hk x.2)]
    · have hn : ¬(Lg u d s ∧ dok s.data.toList = true) := fun x => hu ⟨x.1.2.1, x.1.2.2.1⟩
      rw [decide_eq_false hu, if_neg (by simp), if_neg hn]; simp
  · have hn : ¬(Lg u d s ∧ dok s.data.toList = true) := fun x => hf x.1.1
    rw [decide_eq_false hf, if_neg (by simp), if_neg hn]; simp
theorem tied_ev (k : Nat) (hk : 1000010 ≤ k) (l : List Int) (hl : Bs l) : ∃ u d p', spec_l20Tied.f k l 0 = some (u, d, p') ∧ 0 ≤ p' ∧ p' ≤ 100 := by
  unfold spec_l20Tied.f
  obtain ⟨b, p1, e, h2, h3⟩ := odd_ev k (by omega) l hl 0 9 (by omega) (by omega)
  rw [e]
  simp only [Option.bind_some]
  by_cases hb : b = true
  · rw [if_pos hb]
    obtain ⟨u, d, p2, e2, w1, w2, _⟩ := fraction_ev k (by omega) l hl p1 3 (by omega) (by omega)
    rw [e2]
    exact ⟨_, _, _, rfl, by show 0 ≤ p2; omega, by show p2 ≤ 100; omega⟩
  · rw [if_neg hb]
    obtain ⟨r1, e2, q2⟩ := pick_ev k (by omega) l hl p1 13 (by omega) (by omega)
    rw [e2]
    simp only [Option.bind_some]
    obtain ⟨r2, e3, q3⟩ := pick_ev k (by omega) l hl (p1 + 1) 13 (by omega) (by omega)
    rw [e3]
    simp only [Option.bind_some]
    obtain ⟨r3, e4, q4⟩ := pick_ev k (by omega) l hl (p1 + 1 + 1) 13 (by omega) (by omega)
    rw [e4]
    simp only [Option.bind_some]
    rw [spec_LowestOf_ev k (by omega)]
    simp only [Option.bind_some]
    split
    · exact ⟨_, _, _, rfl, by omega, by omega⟩
    · exact ⟨_, _, _, rfl, by omega, by omega⟩
theorem ext_take (s : ByteArray) (n : Nat) : s.extract 0 n = ofL (s.data.toList.take n) := by
  apply ByteArray.ext
  apply Array.toList_inj.1
  simp [ofL]
theorem ext_drop (s : ByteArray) (n : Nat) : s.extract n s.size = ofL (s.data.toList.drop n) := by
  have hsz : s.data.toList.length = s.size := by simp
  apply ByteArray.ext
  apply Array.toList_inj.1
  simp only [ofL, ByteArray.data_extract, Array.toList_extract, List.extract_eq_take_drop]
  rw [List.take_of_length_le (by rw [List.length_drop, hsz]; omega)]
theorem FnLongFrom_draw (l0 : List Int) (hw : ∀ x ∈ l0, (Lit.int .u8 x).wf = true) : ∃ u d s, spec_DrawLongFrom.f 3000001 l0 = some (u, d, s) := by
  unfold spec_DrawLongFrom.f
  obtain ⟨m, e, hm⟩ := open_ev l0 hw
  rw [e]
  simp only [Option.bind_some]
  obtain ⟨u, d, p1, e1, hp0, hp1⟩ := tied_ev 3000001 (by omega) m hm
  rw [e1]
  simp only [Option.bind_some]
  rw [spec_UntiedOf_ev _ (by omega)]
  by_cases hS : Sm u d
  · rw [if_pos hS]
    obtain ⟨r, e2, q⟩ := pick_ev 3000001 (by omega) m hm p1 2 (by omega) (by omega)
    have hok : (ofL (unW u d), true).2 = true := rfl
    rw [Option.bind_some, if_pos hok, e2, Option.bind_some]
    split
    · exact ⟨_, _, _, rfl⟩
    · obtain ⟨t, p', e3, _⟩ := dance_ev 3000001 m hm (p1 + 1) 60 12 (by decide) (by omega) (by omega) (by omega)
      rw [e3]
      exact ⟨_, _, _, rfl⟩
  · rw [if_neg hS]
    obtain ⟨t, p', e3, _⟩ := dance_ev 3000001 m hm p1 60 12 (by decide) (by omega) (by omega) (by omega)
    have hno : ¬ (ofL [], false).2 = true := by simp
    rw [Option.bind_some, if_neg hno, e3]
    exact ⟨_, _, _, rfl⟩
theorem FnLongFrom (l0 : List Int) (hw : ∀ x ∈ l0, (Lit.int .u8 x).wf = true) : ∃ k, laws_FnLongFrom.f k l0 = some true := by
  refine ⟨3000001, ?_⟩
  unfold laws_FnLongFrom.f
  by_cases h : (l0.length : Int) > 1048576
  · rw [if_pos h]
  · rw [if_neg h]
    obtain ⟨u, d, s, e⟩ := FnLongFrom_draw l0 hw
    rw [e]
    simp only [Option.bind_some]
    rw [impl_LongFrom_ev _ (by omega), spec_LongFrom_ev _ u d s (by omega)]
    simp only [Option.bind_some]
    rw [if_neg (by simp)]
    rw [show ∀ x : Bool, (x != x) = false from fun x => by cases x <;> rfl]
    simp only [laws_FnLongFrom.j0]
    rw [if_neg (by simp)]
    by_cases hL : Lg u d s ∧ dok s.data.toList = true
    · have el : lgR u d s = dR (dnc (u, d) s.data.toList) := by unfold lgR; rw [if_pos hL]
      rw [el]
      cases hg : dnc (u, d) s.data.toList with
      | none => simp [dR, alive_ev]
      | some g =>
        have hok : (dR (some g)).2.2 = true := rfl
        have hsz : s.data.toList.length = s.size := by simp
        have hn := hL.1.2.2.2.2
        obtain ⟨n, hn1, hn2⟩ : ∃ n : Nat, (s.size : Int) / 2 = (n : Int) ∧ n ≤ s.size := ⟨s.size / 2, by omega, by omega⟩
        rw [if_pos hok, hn1, w64 (by omega), if_pos (by omega), if_pos (by omega), Int.toNat_natCast, ext_take, ext_drop]
        have hsplit : s.data.toList.take n ++ s.data.toList.drop n = s.data.toList := List.take_append_drop n _
        have hdk := hL.2
        rw [← hsplit, dok_app] at hdk
        have hdk' : dok (s.data.toList.take n) = true ∧ dok (s.data.toList.drop n) = true := by simpa using hdk
        have hg2 := hg
        rw [← hsplit, dnc_app] at hg2
        obtain ⟨p, hp, hq⟩ := Option.bind_eq_some_iff.mp hg2
        have yp : Lg u d (ofL (s.data.toList.take n)) ∧ dok (ofL (s.data.toList.take n)).data.toList = true := ⟨⟨hL.1.1, hL.1.2.1, hL.1.2.2.1, hL.1.2.2.2.1, by rw [ofL_size, List.length_take]; omega⟩, by rw [ofL_data]; exact hdk'.1⟩
        have ep : lgR u d (ofL (s.data.toList.take n)) = dR (some p) := by unfold lgR; rw [if_pos yp, ofL_data, hp]
        rw [impl_LongFrom_ev _ (by omega), ep]
        simp only [Option.bind_some]
        rw [impl_LongFrom_ev _ (by omega)]
        simp only [Option.bind_some]
        rw [impl_DancedFrom_ev _ (by omega)]
        simp only [Option.bind_some]
        have hokp : (dR (some p)).2.2 = true := rfl
        rw [if_pos hokp]
        have last : (if (s.size : Int) > 40 then some true else (if (if Fr u d ∧ Dn s then dR (dnc (u, d) s.data.toList) else (0, 0, false)).2.2 = true then some ((if Fr u d ∧ Dn s then dR (dnc (u, d) s.data.toList) else (0, 0, false)).1 == (dR (some g)).1 && ((if Fr u d ∧ Dn s then dR (dnc (u, d) s.data.toList) else (0, 0, false)).2.1 == (dR (some g)).2.1)) else some false)) = some true := by
          split
          · rfl
          · have y : Fr u d ∧ Dn s := ⟨hL.1.1, hL.2, by omega⟩
            rw [if_pos y, hg]
            simp [dR]
        by_cases hql : Lg (dR (some p)).1 (dR (some p)).2.1 (ofL (s.data.toList.drop n)) ∧ dok (ofL (s.data.toList.drop n)).data.toList = true
        · have eq : lgR (dR (some p)).1 (dR (some p)).2.1 (ofL (s.data.toList.drop n)) = dR (some g) := by
            unfold lgR
            rw [if_pos hql, ofL_data]
            have : dnc ((dR (some p)).1, (dR (some p)).2.1) (s.data.toList.drop n) = dnc p (s.data.toList.drop n) := rfl
            rw [this, hq]
          rw [eq, if_pos hok, if_pos (by simp)]
          exact last
        · have eq : lgR (dR (some p)).1 (dR (some p)).2.1 (ofL (s.data.toList.drop n)) = (0, 0, false) := by
            unfold lgR
            rw [if_neg hql]
          rw [eq, if_neg (by simp)]
          exact last
    · have el : lgR u d s = (0, 0, false) := by unfold lgR; rw [if_neg hL]
      rw [el]
      simp [alive_ev]
end Go.Proofs.YtcahmfhlmclgkaaDoor.Pure
