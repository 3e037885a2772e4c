/- What the walked law FnFasterOf computes, answers true. -/
import Derived.Test.YtflbkfdmhaenkaaDoorPFnFasterOfx7
import Derived.OpenShut
namespace Go.Proofs.YtflbkfdmhaenkaaDoor.Pure
open Go.RowKit Go.Proofs.YtflbkfdmhaenkaaDoor.PFnFasterOf Go.Proofs.YtflbkfdmhaenkaaDoorW.PrintWords Go.Proofs.YtflbkfdmhaenkaaDoorW.PrintLast Go.Proofs.YtflbkfdmhaenkaaDoorW.PrintMore
set_option linter.unusedVariables false
set_option linter.unusedSimpArgs false
theorem st {P : Prop} [Decidable P] (h : P) : some true = some (decide P) := by simp [h]
theorem sf {P : Prop} [Decidable P] (h : ¬P) : some false = some (decide P) := by simp [h]
theorem sd {P Q : Prop} [Decidable P] [Decidable Q] (h : P ↔ Q) : some (decide P) = some (decide Q) := by simp [h]
theorem w64 {n : Int} (h : -9223372036854775808 ≤ n ∧ n ≤ 9223372036854775807) : wrap64 n = n := by unfold wrap64; omega
def Fr (u d : Int) : Prop := -1000000 ≤ u ∧ u ≤ 1000000 ∧ 0 ≤ d ∧ d ≤ 1000000 ∧ (d = 0 → u = 1) ∧ (Int.gcd u d = 1)
instance (u d : Int) : Decidable (Fr u d) := by unfold Fr; exact inferInstance
def Pt (n : Int) : Prop := -1000000 ≤ n ∧ n ≤ 1000000
instance (n : Int) : Decidable (Pt n) := by unfold Pt; exact inferInstance
theorem gcd_step (a b : Int) : Int.gcd b (Int.tmod a b) = Int.gcd a b := by
  unfold Int.gcd
  rw [Int.natAbs_tmod, Nat.gcd_comm a.natAbs b.natAbs, Nat.gcd_rec b.natAbs a.natAbs, Nat.gcd_comm]
theorem tmod_lt (a b : Int) (h : b ≠ 0) : (Int.tmod a b).natAbs < b.natAbs := by
  rw [Int.natAbs_tmod]
  exact Nat.mod_lt _ (by omega)
theorem tdiv_le (a b : Int) : (Int.tdiv a b).natAbs ≤ a.natAbs := by
  rw [Int.natAbs_tdiv]
  exact Nat.div_le_self _ _
theorem tdiv_w (a b : Int) (h : -1000000 ≤ a ∧ a ≤ 1000000) : wrap64 (Int.tdiv a b) = Int.tdiv a b := by
  have := tdiv_le a b
  exact w64 (by omega)
theorem gcd_le_pt (a b : Int) (ha : Pt a) (hb : Pt b) : (Int.gcd a b : Int) ≤ 1000000 := by
  unfold Pt at ha hb
  by_cases h : a = 0
  · subst h
    rw [Int.zero_gcd]
    omega
  · have := Int.gcd_le_natAbs_left b h
    omega
theorem gcd_pos (a b : Int) (h : ¬(a = 0 ∧ b = 0)) : 0 < Int.gcd a b := by
  rcases Nat.eq_zero_or_pos (Int.gcd a b) with h' | h'
  · exact absurd (Int.gcd_eq_zero_iff.mp h') h
  · exact h'
def sg (u d : Int) : Int := if d < 0 ∨ (d = 0 ∧ u < 0) then -(Int.gcd u d : Int) else (Int.gcd u d : Int)
def lowU (u d : Int) : Int := Int.tdiv u (sg u d)
def lowD (u d : Int) : Int := Int.tdiv d (sg u d)
theorem mulb {a b : Int} (ha : Pt a) (hb : Pt b) : -1000000000000 ≤ a * b ∧ a * b ≤ 1000000000000 := by
  unfold Pt at ha hb
  have h1 : a.natAbs ≤ 1000000 := by omega
  have h2 : b.natAbs ≤ 1000000 := by omega
  have := Nat.mul_le_mul h1 h2
  rw [← Int.natAbs_mul] at this
  omega
theorem wmul {a b : Int} (ha : Pt a) (hb : Pt b) : wrap64 (a * b) = a * b := by
  have := mulb ha hb
  exact w64 (by omega)
theorem Fr.pu {u d : Int} (h : Fr u d) : Pt u := ⟨h.1, h.2.1⟩
theorem Fr.pd {u d : Int} (h : Fr u d) : Pt d := by unfold Fr at h; unfold Pt; omega
theorem Fr.ne {u d : Int} (h : Fr u d) : ¬(-d = 0 ∧ u = 0) := by
  unfold Fr at h; omega
theorem Fr.wn {u d : Int} (h : Fr u d) : wrap64 (-d) = -d := by
  unfold Fr at h; exact w64 (by omega)
theorem Fr.pn {u d : Int} (h : Fr u d) : Pt (-d) := by
  unfold Fr at h; unfold Pt; omega
def ovU (u d : Int) : Int := if u ≤ 0 then d else -d
def ovD (u : Int) : Int := if u ≤ 0 then -u else u
theorem low_one {u d : Int} (h : Int.gcd u d = 1) : lowU u d = (if d < 0 ∨ (d = 0 ∧ u < 0) then -u else u) ∧ lowD u d = (if d < 0 ∨ (d = 0 ∧ u < 0) then -d else d) := by
  unfold lowU lowD sg
  rw [h]
  split
  · simp
  · simp
theorem low_over {u d : Int} (h : Fr u d) : lowU (-d) u = ovU u d ∧ lowD (-d) u = ovD u := by
  have hg : Int.gcd (-d) u = 1 := by rw [Int.neg_gcd, Int.gcd_comm]; exact h.2.2.2.2.2
  obtain ⟨e1, e2⟩ := low_one hg
  rw [e1, e2]
  unfold Fr at h
  unfold ovU ovD
  by_cases h1 : u < 0
  · rw [if_pos (Or.inl h1), if_pos (Or.inl h1), if_pos (by omega), if_pos (by omega)]; omega
  · by_cases h2 : u = 0
    · have : d = 1 ∨ d ≠ 1 := by omega
      have hd : 0 < d := by omega
      rw [if_pos (Or.inr ⟨h2, by omega⟩), if_pos (Or.inr ⟨h2, by omega⟩), if_pos (by omega), if_pos (by omega)]; omega
    · rw [if_neg (by omega), if_neg (by omega), if_neg (by omega), if_neg (by omega)]; omega
theorem Fr.over {u d : Int} (h : Fr u d) : Fr (ovU u d) (ovD u) := by
  have hn := h.ne
  have hg := h.2.2.2.2.2
  have hc : Int.gcd d u = 1 := by rw [Int.gcd_comm]; exact hg
  unfold Fr at h
  unfold ovU ovD
  by_cases h1 : u ≤ 0
  · rw [if_pos h1, if_pos h1]
    exact ⟨by omega, by omega, by omega, by omega, fun x => by
      have hu : u = 0 := by omega
      subst hu
      rw [Int.gcd_zero_right] at hc
      omega, by rw [Int.gcd_neg]; exact hc⟩
  · rw [if_neg h1, if_neg h1]
    exact ⟨by omega, by omega, by omega, by omega, by omega, by rw [Int.neg_gcd]; exact hc⟩
def pl (u d n : Int) : Int × Int × Bool := if Fr (u + n * d) d then (u + n * d, d, true) else (0, 0, false)
theorem wplus {u d n : Int} (hu : Pt u) (hd : Pt d) (hn : Pt n) : wrap64 (u + wrap64 (n * d)) = u + n * d := by
  have := mulb hn hd
  rw [wmul hn hd]
  unfold Pt at hu
  exact w64 (by omega)
theorem ltge (a b : Int) : a < b ∨ b ≤ a := by omega
theorem over_over {u d : Int} (h : Fr u d) : ovU (ovU u d) (ovD u) = u ∧ ovD (ovU u d) = d := by
  have hg := h.2.2.2.2.2
  unfold Fr at h
  unfold ovU ovD
  by_cases h1 : u ≤ 0
  · simp only [if_pos h1]
    by_cases h2 : d ≤ 0
    · have : u = 1 := h.2.2.2.2.1 (by omega)
      omega
    · rw [if_neg h2, if_neg h2]; omega
  · simp only [if_neg h1]
    rw [if_pos (by omega), if_pos (by omega)]; omega
def t2 (n : Int) : Bool := decide (2 ≤ n ∧ n ≤ 60)
def ofL (l : List UInt8) : ByteArray := ⟨l.toArray⟩
theorem ofL_size (l : List UInt8) : (ofL l).size = l.length := by simp [ofL, ByteArray.size]
theorem ofL_app (l m : List UInt8) : ofL l ++ ofL m = ofL (l ++ m) := by
  apply ByteArray.ext; simp [ofL]
theorem ofL_data (l : List UInt8) : (ofL l).data.toList = l := by simp [ofL]
theorem bt_get (s : ByteArray) (i : Int) (h0 : 0 ≤ i) (h : i.toNat < s.size) : bt s i = (s.data.toList[i.toNat]'(by simpa using h)).toNat := by
  unfold bt
  rw [dif_pos h]
  rfl
def mv (c : UInt8) : Bool := c == 84 || c == 116 || c == 82
def dok (l : List UInt8) : Bool := l.all mv
def bk (c : UInt8) : UInt8 := if c = 84 then 116 else if c = 116 then 84 else 82
def backL (l : List UInt8) : List UInt8 := (l.reverse).map bk
theorem u8_eq (c : UInt8) (n : Nat) (hn : n < 256) : ((c.toNat : Int) = (n : Int)) ↔ c = UInt8.ofNat n := by
  constructor
  · intro h
    have : c.toNat = n := by omega
    rw [← UInt8.toNat_inj, this]
    simp
    omega
  · intro h
    rw [h]
    simp
    omega
theorem backL_len (l : List UInt8) : (backL l).length = l.length := by simp [backL]
theorem impl_isPart_ev (n : Int) : impl_isPart.f n = some (decide (Pt n)) := by
  unfold impl_isPart.f Pt
  split
  · exact sd (by omega)
  · exact sf (by omega)
theorem spec_l1In_ev (n a b : Int) : spec_l1In.f n a b = some (decide (a ≤ n ∧ n ≤ b)) := by
  unfold spec_l1In.f
  split
  · exact sd (by omega)
  · exact sf (by omega)
theorem impl_gcd_l0 (n : Nat) : ∀ (k : Nat) (a b : Int), b.natAbs ≤ n → n < k → a.natAbs ≤ 4611686018427387904 → b.natAbs ≤ 4611686018427387904 → impl_gcd.l0 k a b = some (Int.gcd a b : Int) := by
  induction n with
  | zero =>
    intro k a b hb hk ha _
    obtain ⟨k, rfl⟩ : ∃ m, k = m + 1 := ⟨k - 1, by omega⟩
    have hb0 : b = 0 := by omega
    simp only [impl_gcd.l0]
    rw [if_pos hb0, w64 (by omega), hb0, Int.gcd_zero_right]
    unfold mx; congr 1; split <;> omega
  | succ n ih =>
    intro k a b hb hk ha hb'
    obtain ⟨k, rfl⟩ : ∃ m, k = m + 1 := ⟨k - 1, by omega⟩
    simp only [impl_gcd.l0]
    by_cases h : b = 0
    · rw [if_pos h, w64 (by omega), h, Int.gcd_zero_right]
      unfold mx; congr 1; split <;> omega
    · rw [if_neg h]
      have := tmod_lt a b h
      rw [ih k b (Int.tmod a b) (by omega) (by omega) (by omega) (by omega), gcd_step]
theorem impl_gcd_ev (k : Nat) (hk : 1000002 ≤ k) (a b : Int) (ha : Pt a) (hb : Pt b) : impl_gcd.f k a b = some (Int.gcd a b : Int) := by
  unfold Pt at ha hb
  exact impl_gcd_l0 1000001 k a b (by omega) (by omega) (by omega) (by omega)
theorem spec_l1Common_l0 (n : Nat) : ∀ (k : Nat) (a b : Int), 0 ≤ a → 0 ≤ b → b.natAbs ≤ n → n < k → spec_l1Common.l0 k a b = some (Int.gcd a b : Int) := by
  induction n with
  | zero =>
    intro k a b ha hb0 hb hk
    obtain ⟨k, rfl⟩ : ∃ m, k = m + 1 := ⟨k - 1, by omega⟩
    have hb0 : b = 0 := by omega
    subst hb0
    simp only [spec_l1Common.l0]
    rw [if_neg (by omega), Int.gcd_zero_right]
    congr 1; omega
  | succ n ih =>
    intro k a b ha hb0 hb hk
    obtain ⟨k, rfl⟩ : ∃ m, k = m + 1 := ⟨k - 1, by omega⟩
    simp only [spec_l1Common.l0]
    by_cases h : b = 0
    · subst h
      rw [if_neg (by omega), Int.gcd_zero_right]
      congr 1; omega
    · rw [if_pos (by omega), if_neg h]
      have := tmod_lt a b h
      have h2 := Int.tmod_nonneg b ha
      rw [ih k b (Int.tmod a b) hb0 h2 (by omega) (by omega), gcd_step]
theorem mx_abs (a : Int) (h : Pt a) : mx a (wrap64 (-a)) = (a.natAbs : Int) := by
  unfold Pt at h
  rw [w64 (by omega)]
  unfold mx; split <;> omega
theorem spec_l1Common_ev (k : Nat) (hk : 1000002 ≤ k) (a b : Int) (ha : Pt a) (hb : Pt b) : spec_l1Common.f k a b = some (Int.gcd a b : Int) := by
  unfold spec_l1Common.f
  rw [mx_abs a ha, mx_abs b hb, spec_l1Common_l0 1000001 k _ _ (by omega) (by omega) (by unfold Pt at hb; omega) (by omega)]
  rfl
theorem impl_isFraction_ev (k : Nat) (hk : 1000002 ≤ k) (u d : Int) : impl_isFraction.f k u d = some (decide (Fr u d)) := by
  unfold impl_isFraction.f
  simp only [impl_isPart_ev, Option.bind_some, decide_eq_true_eq]
  by_cases hu : Pt u
  · rw [if_pos hu]
    by_cases h1 : d < 0
    · rw [if_pos h1]; exact sf (by intro h; unfold Fr at h; omega)
    · rw [if_neg h1]
      by_cases h2 : d > 1000000
      · rw [if_pos h2]; exact sf (by intro h; unfold Fr at h; omega)
      · rw [if_neg h2]
        have hd : Pt d := by unfold Pt; omega
        rw [impl_gcd_ev k hk u d hu hd]
        unfold Pt at hu
        have e : ((Int.gcd u d : Int) == 1) = decide (Int.gcd u d = 1) := by rw [Bool.eq_iff_iff]; simp; omega
        simp only [Option.bind_some, e]
        by_cases h3 : d = 0
        · rw [if_pos h3]
          by_cases h4 : u = 1
          · rw [if_pos h4]; exact sd (by unfold Fr; omega)
          · rw [if_neg h4]; exact sf (by intro h; unfold Fr at h; omega)
        · rw [if_neg h3]; exact sd (by unfold Fr; omega)
  · rw [if_neg hu]; exact sf (by intro h; unfold Fr at h; unfold Pt at hu; omega)
theorem impl_FractionOk_ev (k : Nat) (hk : 1000002 ≤ k) (u d : Int) : impl_FractionOk.f k u d = some (decide (Fr u d)) := by
  unfold impl_FractionOk.f
  rw [impl_isFraction_ev k hk]; rfl
theorem spec_FractionOk_ev (k : Nat) (hk : 1000002 ≤ k) (u d : Int) : spec_FractionOk.f k u d = some (decide (Fr u d)) := by
  unfold spec_FractionOk.f
  simp only [spec_l1In_ev, Option.bind_some, decide_eq_true_eq]
  by_cases hu : -1000000 ≤ u ∧ u ≤ 1000000
  · rw [if_pos hu]
    by_cases hd : 0 ≤ d ∧ d ≤ 1000000
    · rw [if_pos hd, spec_l1Common_ev k hk u d hu (by unfold Pt; omega)]
      simp only [Option.bind_some]
      by_cases h1 : (Int.gcd u d : Int) = 1
      · rw [if_pos h1]
        by_cases h3 : d > 0
        · rw [if_pos h3]; exact st (by unfold Fr; omega)
        · rw [if_neg h3]
          have e : (u == 1) = decide (u = 1) := by rw [Bool.eq_iff_iff]; simp
          rw [e]; exact sd (by unfold Fr; omega)
      · rw [if_neg h1]; exact sf (by intro h; unfold Fr at h; omega)
    · rw [if_neg hd]; exact sf (by intro h; unfold Fr at h; omega)
  · rw [if_neg hu]; exact sf (by intro h; unfold Fr at h; omega)
theorem impl_lowest_ev (k : Nat) (hk : 1000002 ≤ k) (u d : Int) (hu : Pt u) (hd : Pt d) (h : ¬(u = 0 ∧ d = 0)) : impl_lowest.f k u d = some (lowU u d, lowD u d) := by
  unfold impl_lowest.f
  rw [impl_gcd_ev k hk u d hu hd]
  simp only [Option.bind_some]
  have hg := gcd_pos u d h
  have hl := gcd_le_pt u d hu hd
  have e1 : wrap64 (-(Int.gcd u d : Int)) = -(Int.gcd u d : Int) := w64 (by omega)
  unfold lowU lowD sg
  rw [e1]
  simp only [tdiv_w _ _ hu, tdiv_w _ _ hd]
  by_cases h1 : d < 0
  · rw [if_pos h1, if_neg (by omega), if_pos (by omega)]
  · rw [if_neg h1]
    by_cases h2 : d = 0
    · rw [if_pos h2]
      by_cases h3 : u < 0
      · rw [if_pos h3, if_neg (by omega), if_pos (by omega)]
      · rw [if_neg h3, if_neg (by omega), if_neg (by omega)]
    · rw [if_neg h2, if_neg (by omega), if_neg (by omega)]
theorem impl_lowest_over (k : Nat) (hk : 1000002 ≤ k) {u d : Int} (h : Fr u d) : impl_lowest.f k (wrap64 (-d)) u = some (ovU u d, ovD u) := by
  rw [h.wn, impl_lowest_ev k hk _ _ h.pn h.pu h.ne, (low_over h).1, (low_over h).2]
theorem spec_LowestOf_ev (k : Nat) (hk : 1000003 ≤ k) (u d : Int) : spec_LowestOf.f k u d = some (if Pt u ∧ Pt d ∧ ¬(u = 0 ∧ d = 0) then (lowU u d, lowD u d, true) else (0, 0, false)) := by
  obtain ⟨k, rfl⟩ : ∃ m, k = m + 1 := ⟨k - 1, by omega⟩
  have jt : spec_LowestOf.j0 (k + 1) u d true = some (0, 0, false) := by simp only [spec_LowestOf.j0]; rw [if_pos trivial]
  have jf : Pt u → Pt d → ¬(u = 0 ∧ d = 0) → spec_LowestOf.j0 (k + 1) u d false = some (lowU u d, lowD u d, true) := by
    intro hu hd h
    simp only [spec_LowestOf.j0]
    rw [if_neg (by simp), spec_l1Common_ev k (by omega) u d hu hd]
    simp only [Option.bind_some]
    have hg := gcd_pos u d h
    have hl := gcd_le_pt u d hu hd
    have e1 : wrap64 (-(Int.gcd u d : Int)) = -(Int.gcd u d : Int) := w64 (by omega)
    unfold lowU lowD sg
    rw [e1]
    simp only [tdiv_w _ _ hu, tdiv_w _ _ hd]
    by_cases h1 : d < 0
    · rw [if_pos h1, if_neg (by omega), if_pos (by omega)]
    · rw [if_neg h1]
      by_cases h2 : d = 0
      · rw [if_pos h2]
        by_cases h3 : u < 0
        · rw [if_pos h3, if_neg (by omega), if_pos (by omega)]
        · rw [if_neg h3, if_neg (by omega), if_neg (by omega)]
      · rw [if_neg h2, if_neg (by omega), if_neg (by omega)]
  have pt : ∀ n : Int, (-1000000 ≤ n ∧ n ≤ 1000000) ↔ Pt n := fun n => Iff.rfl
  unfold spec_LowestOf.f
  simp only [spec_l1In_ev, Option.bind_some, decide_eq_true_eq, pt]
  by_cases hu : Pt u
  · rw [if_pos hu]
    by_cases hd : Pt d
    · rw [if_pos hd]
      by_cases h : u = 0 ∧ d = 0
      · rw [if_pos h.1, if_neg (fun x => x.2.2 h)]
        have : (d == 0) = true := by simpa using h.2
        rw [this]; exact jt
      · have hp : Pt u ∧ Pt d ∧ ¬(u = 0 ∧ d = 0) := ⟨hu, hd, h⟩
        rw [if_pos hp]
        by_cases h1 : u = 0
        · rw [if_pos h1]
          have : (d == 0) = false := by simpa using (by omega : ¬ d = 0)
          rw [this]; exact jf hu hd h
        · rw [if_neg h1]; exact jf hu hd h
    · rw [if_neg hd, if_neg (fun x => hd x.2.1)]; exact jt
  · rw [if_neg hu, if_neg (fun x => hu x.1)]; exact jt
theorem spec_OverOf_ev (k : Nat) (hk : 1000003 ≤ k) (u d : Int) : spec_OverOf.f k u d = some (if Fr u d then (ovU u d, ovD u) else (0, 0)) := by
  unfold spec_OverOf.f
  simp only [spec_FractionOk_ev k (by omega), Option.bind_some, decide_eq_true_eq]
  by_cases h : Fr u d
  · rw [if_pos h, if_pos h, h.wn, spec_LowestOf_ev k hk, if_pos ⟨h.pn, h.pu, h.ne⟩]
    simp only [Option.bind_some, (low_over h).1, (low_over h).2]
  · rw [if_neg h, if_neg h]
theorem spec_PlusOf_ev (k : Nat) (hk : 1000002 ≤ k) (u d n : Int) : spec_PlusOf.f k u d n = some (if Fr u d ∧ Pt n then pl u d n else (0, 0, false)) := by
  have pt : ∀ n : Int, (-1000000 ≤ n ∧ n ≤ 1000000) ↔ Pt n := fun n => Iff.rfl
  unfold spec_PlusOf.f
  simp only [spec_FractionOk_ev k hk, spec_l1In_ev, Option.bind_some, decide_eq_true_eq, pt]
  by_cases h : Fr u d
  · rw [if_pos h]
    by_cases hn : Pt n
    · have hp : Fr u d ∧ Pt n := ⟨h, hn⟩
      rw [if_pos hn, if_pos hp, wplus h.pu h.pd hn]
      unfold pl
      split <;> rfl
    · rw [if_neg hn, if_neg (fun x => hn x.2)]
  · rw [if_neg h, if_neg (fun x => h x.1)]
theorem impl_plus_ev (k : Nat) (hk : 1000002 ≤ k) (u d n : Int) (h : Fr u d) (hn : Pt n) : impl_plus.f k u d n = some (pl u d n) := by
  unfold impl_plus.f
  rw [wplus h.pu h.pd hn, impl_isFraction_ev k hk]
  unfold pl
  simp only [Option.bind_some, decide_eq_true_eq]
  split <;> rfl
def Bs (l : List Int) : Prop := l.length ≤ 2000 ∧ ∀ i, 0 ≤ rd l i ∧ rd l i ≤ 255
theorem xor_nn (a b : Int) (ha : 0 ≤ a ∧ a ≤ 4611686018427387903) (hb : 0 ≤ b ∧ b ≤ 4611686018427387903) : 0 ≤ Go.bits .xor .i64 a b := by
  obtain ⟨m, rfl⟩ : ∃ m : Nat, a = m := ⟨a.toNat, by omega⟩
  obtain ⟨n, rfl⟩ : ∃ m : Nat, b = m := ⟨b.toNat, by omega⟩
  have hm : m < 2 ^ 62 := by omega
  have hn : n < 2 ^ 62 := by omega
  have hx := Nat.xor_lt_two_pow hm hn
  have e1 : m % 2 ^ IntKind.i64.bits = m := Nat.mod_eq_of_lt (Nat.lt_trans hm (by decide))
  have e2 : n % 2 ^ IntKind.i64.bits = n := Nat.mod_eq_of_lt (Nat.lt_trans hn (by decide))
  simp only [Go.bits, BitVec.ofInt_natCast, BitVec.toNat_xor, BitVec.toNat_ofNat, e1, e2]
  have e3 := IntKind.wrap_i64 ((m ^^^ n : Nat) : Int)
  rw [e3]
  omega
theorem tmod_rng (a n : Int) (ha : 0 ≤ a) (hn : 1 ≤ n) : 0 ≤ Int.tmod a n ∧ Int.tmod a n < n := ⟨Int.tmod_nonneg n ha, Int.tmod_lt_of_pos a (by omega)⟩
theorem pick_ev (k : Nat) (hk : 1 ≤ k) (l : List Int) (hl : Bs l) (p n : Int) (hp : 0 ≤ p ∧ p ≤ 1000000) (hn : n ≤ 10000000) :
    ∃ r, spec_l20Rd_pick.f k l p n = some (r, p + 1) ∧ 0 ≤ r ∧ (1 ≤ n → r < n) ∧ (n < 1 → r = 0) := by
  obtain ⟨k, rfl⟩ : ∃ m, k = m + 1 := ⟨k - 1, by omega⟩
  unfold spec_l20Rd_pick.f
  have e0 : wrap64 (p + 1) = p + 1 := w64 (by omega)
  have e1 : wrap64 (p + 1 - 1) = p := by rw [w64 (by omega)]; omega
  rw [e0]
  by_cases h1 : n < 1
  · rw [if_pos h1]
    simp only [spec_l20Rd_pick.j0]
    rw [if_pos trivial]
    exact ⟨0, rfl, by omega, by omega, fun _ => rfl⟩
  · rw [if_neg h1]
    simp only [spec_l20Rd_pick.j0]
    by_cases h2 : (l.length : Int) = 0
    · rw [if_pos (by simpa using h2)]
      exact ⟨0, rfl, by omega, by omega, fun _ => rfl⟩
    · rw [if_neg (by simpa using h2), e1]
      have hn0 : ¬ n = 0 := by omega
      by_cases h3 : p < (l.length : Int)
      · rw [if_pos h3, if_pos hp.1, if_neg hn0]
        have hr := hl.2 p
        rw [w64 (by omega : -9223372036854775808 ≤ rd l p ∧ _)]
        have := tmod_rng (rd l p) n (by omega) (by omega)
        exact ⟨_, rfl, this.1, fun _ => this.2, by omega⟩
      · rw [if_neg h3, if_neg h2]
        have t1 := tmod_rng p (l.length : Int) hp.1 (by omega)
        have e7 : wrap64 (wrap64 (p * 7) + 3) = p * 7 + 3 := by rw [w64 (by omega : -9223372036854775808 ≤ p * 7 ∧ _), w64 (by omega)]
        rw [e7]
        have t2 := tmod_rng (p * 7 + 3) (l.length : Int) (by omega) (by omega)
        rw [if_pos t1.1, if_pos t1.2, if_pos t2.1, if_pos t2.2, if_neg hn0]
        have r1 := hl.2 (Int.tmod p (l.length : Int))
        have r2 := hl.2 (Int.tmod (p * 7 + 3) (l.length : Int))
        generalize rd l (Int.tmod p (l.length : Int)) = a at r1 ⊢
        generalize rd l (Int.tmod (p * 7 + 3) (l.length : Int)) = b at r2 ⊢
        have q0 := tdiv_le p (l.length : Int)
        have q1 : 0 ≤ Int.tdiv p (l.length : Int) := Int.tdiv_nonneg hp.1 (by omega)
        generalize Int.tdiv p (l.length : Int) = q at q0 q1 ⊢
        have e2 : wrap64 a = a := w64 (by omega)
        have e3 : wrap64 b = b := w64 (by omega)
        have e4 : wrap64 q = q := w64 (by omega)
        rw [e2, e3, e4]
        have e5 : wrap64 (a * 131) = a * 131 := w64 (by omega)
        have e6 : wrap64 (b * 1117) = b * 1117 := w64 (by omega)
        have e8 : wrap64 (q * 53) = q * 53 := w64 (by omega)
        have e9 : wrap64 (p * 29) = p * 29 := w64 (by omega)
        rw [e5, e6, e8, e9]
        have e10 : wrap64 (a * 131 + b * 1117) = a * 131 + b * 1117 := w64 (by omega)
        rw [e10]
        have e11 : wrap64 (a * 131 + b * 1117 + p * 29) = a * 131 + b * 1117 + p * 29 := w64 (by omega)
        rw [e11]
        have e12 : wrap64 (a * 131 + b * 1117 + p * 29 + q * 53) = a * 131 + b * 1117 + p * 29 + q * 53 := w64 (by omega)
        rw [e12]
        have hX : 0 ≤ a * 131 + b * 1117 + p * 29 + q * 53 ∧ a * 131 + b * 1117 + p * 29 + q * 53 ≤ 4611686018427387903 := by omega
        generalize a * 131 + b * 1117 + p * 29 + q * 53 = X at hX ⊢
        have q2 := tdiv_le X 64
        have q3 : 0 ≤ Int.tdiv X 64 := Int.tdiv_nonneg hX.1 (by omega)
        have e13 : wrap64 (Int.tdiv X 64) = Int.tdiv X 64 := w64 (by omega)
        rw [e13]
        have := tmod_rng _ n (xor_nn X (Int.tdiv X 64) hX (by omega)) (by omega)
        exact ⟨_, rfl, this.1, fun _ => this.2, by omega⟩
theorem odd_ev (k : Nat) (hk : 1 ≤ k) (l : List Int) (hl : Bs l) (p n : Int) (hp : 0 ≤ p ∧ p ≤ 1000000) (hn : n ≤ 10000000) :
    ∃ b p', spec_l20Rd_odd.f k l p n = some (b, p') ∧ p ≤ p' ∧ p' ≤ p + 1 := by
  unfold spec_l20Rd_odd.f
  by_cases h : n > 0
  · rw [if_pos h]
    obtain ⟨r, e, _⟩ := pick_ev k hk l hl p n hp hn
    rw [e]
    exact ⟨_, _, rfl, by omega, by omega⟩
  · rw [if_neg h]; exact ⟨_, _, rfl, by omega, by omega⟩
theorem open_ev (l : List Int) (hw : ∀ x ∈ l, (Lit.int .u8 x).wf = true) : ∃ m, spec_l20Open.f l = some (m, 0) ∧ Bs m := by
  have key : ∀ m : List Int, m.length ≤ 2000 → (∀ x ∈ m, x ∈ l) → Bs m := by
    intro m hm hs
    refine ⟨hm, fun i => ?_⟩
    unfold rd
    by_cases h : i.toNat < m.length
    · have : m.getD i.toNat 0 = m[i.toNat] := by simp [h]
      rw [this]
      have h1 := hw _ (hs _ (List.getElem_mem h))
      simp [Lit.wf, IntKind.min, IntKind.max, IntKind.signed, IntKind.bits] at h1
      omega
    · have : m.getD i.toNat 0 = 0 := by simp [Nat.le_of_not_lt h]
      rw [this]; omega
  unfold spec_l20Open.f
  by_cases h : (l.length : Int) > 2000
  · rw [if_pos h, if_pos (by omega)]
    exact ⟨_, rfl, key _ (by simp; omega) (fun x hx => List.mem_of_mem_take hx)⟩
  · rw [if_neg h]
    exact ⟨_, rfl, key _ (by omega) (fun x hx => hx)⟩
def Bd (n : Int) : Prop := -2000000 ≤ n ∧ n ≤ 2000000
theorem low_bd {u d : Int} (hu : Pt u) (hd : Pt d) : Bd (lowU u d) ∧ Bd (lowD u d) := by
  have h1 := tdiv_le u (sg u d)
  have h2 := tdiv_le d (sg u d)
  unfold Pt at hu hd
  unfold Bd lowU lowD
  omega
theorem fraction_ev (k : Nat) (hk : 1000004 ≤ k) (l : List Int) (hl : Bs l) (p n : Int) (hp : 0 ≤ p ∧ p ≤ 900000) (hn : n ≤ 10000000) :
    ∃ u d p', spec_l20Fraction.f k l p n = some (u, d, p') ∧ p ≤ p' ∧ p' ≤ p + 10 ∧ Bd u ∧ Bd d := by
  have j : ∀ (k : Nat) (p u d : Int), 2 ≤ k → 0 ≤ p → p ≤ 900010 → Bd u → Bd d → ∃ u' d' p', spec_l20Fraction.j0 k n l p u d = some (u', d', p') ∧ p ≤ p' ∧ p' ≤ p + 2 ∧ Bd u' ∧ Bd d' := by
    intro k p u d hk h0 h1 hu hd
    obtain ⟨k, rfl⟩ : ∃ m, k = m + 1 := ⟨k - 1, by omega⟩
    simp only [spec_l20Fraction.j0]
    obtain ⟨b, p', e, h2, h3⟩ := odd_ev k (by omega) l hl p n (by omega) hn
    rw [e]
    simp only [Option.bind_some]
    by_cases hb : b = true
    · rw [if_pos hb]
      obtain ⟨r, e2, h4, h5, _⟩ := pick_ev k (by omega) l hl p' 5 (by omega) (by omega)
      rw [e2]
      simp only [Option.bind_some]
      have h6 := h5 (by omega)
      rw [if_pos h4, if_pos (by simp only [List.length_cons, List.length_nil]; omega)]
      refine ⟨_, _, _, rfl, by omega, by omega, ?_⟩
      have : r = 0 ∨ r = 1 ∨ r = 2 ∨ r = 3 ∨ r = 4 := by omega
      unfold Bd
      rcases this with rfl | rfl | rfl | rfl | rfl <;> decide
    · rw [if_neg hb]
      exact ⟨_, _, _, rfl, by omega, by omega, hu, hd⟩
  unfold spec_l20Fraction.f
  simp only [Option.bind_some]
  obtain ⟨r, e1, h1, h2, _⟩ := pick_ev k (by omega) l hl p 4 (by omega) (by omega)
  rw [e1]
  simp only [Option.bind_some]
  have h3 := h2 (by omega)
  rw [if_pos h1, if_pos (by simp only [List.length_cons, List.length_nil]; omega)]
  have hh : 1 ≤ rd [4, 10, 50, 1000] r ∧ rd [4, 10, 50, 1000] r ≤ 1000 := by
    have : r = 0 ∨ r = 1 ∨ r = 2 ∨ r = 3 := by omega
    rcases this with rfl | rfl | rfl | rfl <;> decide
  generalize rd [4, 10, 50, 1000] r = hi at hh ⊢
  obtain ⟨a, e2, a1, a2, _⟩ := pick_ev k (by omega) l hl (p + 1) hi (by omega) (by omega)
  rw [e2]
  simp only [Option.bind_some]
  obtain ⟨b, e3, b1, b2, _⟩ := pick_ev k (by omega) l hl (p + 1 + 1) hi (by omega) (by omega)
  rw [e3]
  simp only [Option.bind_some]
  obtain ⟨c, e4, c1, c2, _⟩ := pick_ev k (by omega) l hl (p + 1 + 1 + 1) hi (by omega) (by omega)
  rw [e4]
  simp only [Option.bind_some]
  have a3 := a2 (by omega)
  have b3 := b2 (by omega)
  have c3 := c2 (by omega)
  rw [w64 (by omega), spec_LowestOf_ev k (by omega)]
  simp only [Option.bind_some]
  by_cases hz : Pt (a - b) ∧ Pt c ∧ ¬(a - b = 0 ∧ c = 0)
  · rw [if_pos hz, if_pos rfl]
    obtain ⟨u, d, p', e, q1, q2, q3⟩ := j k (p + 1 + 1 + 1 + 1) _ _ (by omega) (by omega) (by omega) (low_bd hz.1 hz.2.1).1 (low_bd hz.1 hz.2.1).2
    exact ⟨u, d, p', e, by omega, by omega, q3⟩
  · rw [if_neg hz, if_neg (by simp)]
    obtain ⟨u, d, p', e, q1, q2, q3⟩ := j k (p + 1 + 1 + 1 + 1) 1 0 (by omega) (by omega) (by omega) (by unfold Bd; omega) (by unfold Bd; omega)
    exact ⟨u, d, p', e, by omega, by omega, q3⟩
theorem alive_ev (k : Nat) (hk : 1000002 ≤ k) : laws_alive.f k = some true := by
  unfold laws_alive.f
  simp only [impl_FractionOk_ev k hk, Option.bind_some]
  decide
theorem impl_isSmall_ev (k : Nat) (hk : 1000002 ≤ k) (u d n : Int) (hn : 0 ≤ n ∧ n ≤ 1000000) : impl_isSmall.f k u d n = some (decide (Fr u d ∧ -n ≤ u ∧ u ≤ n ∧ d ≤ n)) := by
  unfold impl_isSmall.f
  rw [impl_isFraction_ev k hk, w64 (by omega)]
  simp only [Option.bind_some, decide_eq_true_eq]
  by_cases h : Fr u d
  · rw [if_pos h]
    by_cases h1 : u ≥ -n
    · rw [if_pos h1]
      by_cases h2 : u ≤ n
      · rw [if_pos h2]; exact sd ⟨fun x => ⟨h, h1, h2, x⟩, fun x => x.2.2.2⟩
      · rw [if_neg h2]; exact sf (fun x => h2 x.2.2.1)
    · rw [if_neg h1]; exact sf (fun x => h1 x.2.1)
  · rw [if_neg h]; exact sf (fun x => h x.1)
def ce (u d : Int) : Int := -((-u) / d)
theorem ce_spec {u d : Int} (hd : 0 < d) : 0 ≤ ce u d * d - u ∧ ce u d * d - u < d := by
  have h1 := Int.emod_nonneg (-u) (show d ≠ 0 by omega)
  have h2 := Int.emod_lt_of_pos (-u) hd
  have h3 := Int.mul_ediv_add_emod (-u) d
  unfold ce
  rw [Int.neg_mul, Int.mul_comm]
  omega
theorem ce_unique {u d c : Int} (hd : 0 < d) (h0 : 0 ≤ c * d - u) (h1 : c * d - u < d) : c = ce u d := by
  have h2 := ce_spec (u := u) hd
  rcases ltge c (ce u d) with h | h
  · have : (c + 1) * d ≤ ce u d * d := Int.mul_le_mul_of_nonneg_right (by omega) (by omega)
    rw [Int.add_mul, Int.one_mul] at this
    omega
  · by_cases e : c = ce u d
    · exact e
    · have : (ce u d + 1) * d ≤ c * d := Int.mul_le_mul_of_nonneg_right (by omega) (by omega)
      rw [Int.add_mul, Int.one_mul] at this
      omega
theorem tdiv_facts (u d : Int) (hd : 0 < d) : (0 ≤ u → 0 ≤ u - Int.tdiv u d * d ∧ u - Int.tdiv u d * d < d) ∧ (u < 0 → 0 ≤ Int.tdiv u d * d - u ∧ Int.tdiv u d * d - u < d) := by
  have h := Int.mul_tdiv_add_tmod u d
  rw [Int.mul_comm] at h
  constructor
  · intro hu
    have h1 := Int.tmod_nonneg d hu
    have h2 := Int.tmod_lt_of_pos u hd
    omega
  · intro hu
    have h1 := Int.tmod_nonneg d (show 0 ≤ -u by omega)
    have h2 := Int.tmod_lt_of_pos (-u) hd
    rw [Int.neg_tmod] at h1 h2
    omega
theorem ce_bd {u d n : Int} (hd : 0 < d) (h : -n ≤ u ∧ u ≤ n) (hn : 0 ≤ n) : -n ≤ ce u d ∧ ce u d ≤ n := by
  have h2 := ce_spec (u := u) hd
  constructor
  · rcases ltge (ce u d) (-n) with h' | h'
    · exfalso
      have t1 : ce u d * d ≤ (-n - 1) * d := Int.mul_le_mul_of_nonneg_right (by omega) (by omega)
      have t2 : (-n - 1) * d ≤ (-n - 1) * 1 := Int.mul_le_mul_of_nonpos_left (by omega) (by omega)
      omega
    · exact h'
  · rcases ltge n (ce u d) with h' | h'
    · exfalso
      have t1 : (n + 1) * d ≤ ce u d * d := Int.mul_le_mul_of_nonneg_right (by omega) (by omega)
      rw [Int.add_mul, Int.one_mul] at t1
      have t2 : n * 1 ≤ n * d := Int.mul_le_mul_of_nonneg_left (by omega) hn
      omega
    · exact h'
theorem impl_ceiling_ev (u d : Int) (hd : 0 < d) (hb : d ≤ 1000) (hu : -1000 ≤ u ∧ u ≤ 1000) : impl_ceiling.f u d = some (ce u d) := by
  unfold impl_ceiling.f
  have b := tdiv_le u d
  have f := tdiv_facts u d hd
  have w1 : wrap64 (Int.tdiv u d) = Int.tdiv u d := w64 (by omega)
  have pm := mulb (a := Int.tdiv u d) (b := d) (by unfold Pt; omega) (by unfold Pt; omega)
  have w2 : wrap64 (Int.tdiv u d * d) = Int.tdiv u d * d := w64 (by omega)
  rw [if_neg (by omega), w1, w2]
  by_cases h : Int.tdiv u d * d < u
  · rw [if_pos h, w64 (by omega)]
    congr 1
    refine ce_unique hd ?_ ?_ <;> rw [Int.add_mul, Int.one_mul]
    · have h' : 0 ≤ u := by
        rcases ltge u 0 with x | x
        · have := f.2 x; omega
        · exact x
      have := f.1 h'
      omega
    · omega
  · rw [if_neg h]
    congr 1
    refine ce_unique hd (by omega) ?_
    rcases ltge u 0 with x | x
    · have := f.2 x; omega
    · have := f.1 x; omega
def ovr (f : Int × Int) : Int × Int := (ovU f.1 f.2, ovD f.1)
def plusO (f : Int × Int) (n : Int) : Option (Int × Int) := if Fr (f.1 + n * f.2) f.2 then some (f.1 + n * f.2, f.2) else none
def mvO (f : Int × Int) (c : UInt8) : Option (Int × Int) := if c = 84 then plusO f 1 else if c = 116 then plusO f (-1) else some (ovr f)
def dnc : (Int × Int) → List UInt8 → Option (Int × Int)
  | f, [] => some f
  | f, c :: l => (mvO f c).bind fun g => dnc g l
theorem dnc_app (l m : List UInt8) : ∀ f, dnc f (l ++ m) = (dnc f l).bind fun g => dnc g m := by
  induction l with
  | nil => intro f; rfl
  | cons c l ih =>
    intro f
    show (mvO f c).bind (fun g => dnc g (l ++ m)) = ((mvO f c).bind fun g => dnc g l).bind fun g => dnc g m
    cases mvO f c with
    | none => rfl
    | some g => exact ih g
theorem plusO_fr {f g : Int × Int} {n : Int} (h : plusO f n = some g) : Fr g.1 g.2 ∧ g = (f.1 + n * f.2, f.2) := by
  unfold plusO at h
  split at h
  · have e := Option.some.inj h
    rw [← e]
    exact ⟨by assumption, rfl⟩
  · cases h
theorem mvO_fr {f g : Int × Int} {c : UInt8} (hf : Fr f.1 f.2) (h : mvO f c = some g) : Fr g.1 g.2 := by
  unfold mvO at h
  split at h
  · exact (plusO_fr h).1
  · split at h
    · exact (plusO_fr h).1
    · have e := Option.some.inj h
      rw [← e]
      exact hf.over
theorem ovr_ovr {f : Int × Int} (h : Fr f.1 f.2) : ovr (ovr f) = f := by
  have := over_over h
  unfold ovr
  rw [this.1, this.2]
theorem mv_cases {c : UInt8} (h : mv c = true) : c = 84 ∨ c = 116 ∨ c = 82 := by
  unfold mv at h
  simp only [Bool.or_eq_true, beq_iff_eq] at h
  rcases h with (h | h) | h
  · exact Or.inl h
  · exact Or.inr (Or.inl h)
  · exact Or.inr (Or.inr h)
theorem mvO_T (f : Int × Int) : mvO f 84 = plusO f 1 := by unfold mvO; rw [if_pos rfl]
theorem mvO_t (f : Int × Int) : mvO f 116 = plusO f (-1) := by unfold mvO; rw [if_neg (by decide), if_pos rfl]
theorem mvO_R (f : Int × Int) : mvO f 82 = some (ovr f) := by unfold mvO; rw [if_neg (by decide), if_neg (by decide)]
theorem plusO_back {f g : Int × Int} {n : Int} (hf : Fr f.1 f.2) (h : plusO f n = some g) : plusO g (-n) = some f := by
  obtain ⟨h1, h2⟩ := plusO_fr h
  rw [h2]
  unfold plusO
  have e : f.1 + n * f.2 + -n * f.2 = f.1 := by rw [Int.neg_mul]; omega
  rw [e, if_pos hf]
theorem bk_T : bk 84 = 116 := by decide
theorem bk_t : bk 116 = 84 := by decide
theorem bk_R : bk 82 = 82 := by decide
theorem mvO_back {f g : Int × Int} {c : UInt8} (hf : Fr f.1 f.2) (hc : mv c = true) (h : mvO f c = some g) : mvO g (bk c) = some f := by
  rcases mv_cases hc with rfl | rfl | rfl
  · rw [bk_T, mvO_t]; rw [mvO_T] at h; exact plusO_back hf h
  · rw [bk_t, mvO_T]; rw [mvO_t] at h; exact plusO_back hf h
  · rw [bk_R, mvO_R]; rw [mvO_R] at h
    rw [← Option.some.inj h, ovr_ovr hf]
theorem backL_cons (c : UInt8) (l : List UInt8) : backL (c :: l) = backL l ++ [bk c] := by
  unfold backL; simp
theorem dnc_back (l : List UInt8) : ∀ {f g : Int × Int}, Fr f.1 f.2 → dok l = true → dnc f l = some g → dnc g (backL l) = some f := by
  induction l with
  | nil => intro f g hf hd h; have e : f = g := Option.some.inj h; rw [← e]; rfl
  | cons c l ih =>
    intro f g hf hd h
    have hd' : mv c = true ∧ dok l = true := by
      have : (mv c && dok l) = true := hd
      simpa using this
    obtain ⟨x, h1, h2⟩ := Option.bind_eq_some_iff.mp (show (mvO f c).bind (fun g => dnc g l) = some g from h)
    have hx := mvO_fr hf h1
    rw [backL_cons, dnc_app, ih hx hd'.2 h2]
    show (mvO x (bk c)).bind (fun g => some g) = some f
    rw [mvO_back hf hd'.1 h1]
    rfl
theorem bk_bk {c : UInt8} (h : mv c = true) : bk (bk c) = c ∧ mv (bk c) = true := by
  rcases mv_cases h with rfl | rfl | rfl <;> decide
theorem dok_backL (l : List UInt8) (h : dok l = true) : dok (backL l) = true := by
  unfold dok backL at *
  rw [List.all_eq_true] at *
  intro x hx
  rw [List.mem_map] at hx
  obtain ⟨y, hy, rfl⟩ := hx
  rw [List.mem_reverse] at hy
  exact (bk_bk (h y hy)).2
theorem ofL_toList (l : List UInt8) : (ofL l).toList = l := by rw [ByteArray.toList_eq, ofL_data]
theorem bt_ofL (l : List UInt8) (i : Nat) (h : i < l.length) : bt (ofL l) (i : Int) = ((l[i]).toNat : Int) := by
  have e := bt_get (ofL l) (i : Int) (by omega) (by rw [ofL_size]; omega)
  rw [e]
  simp [ofL]
theorem impl_areMoves_ev (s : ByteArray) (hn : s.size ≤ 1000000000) : impl_areMoves.f s = some (dok s.data.toList) := by
  unfold impl_areMoves.f; rw [if_pos (by omega)]; rfl
def dR (o : Option (Int × Int)) : Int × Int × Bool := match o with | some f => (f.1, f.2, true) | none => (0, 0, false)
theorem pl_plusO (u d n : Int) : pl u d n = dR (plusO (u, d) n) := by
  unfold pl plusO
  by_cases h : Fr (u + n * d) d
  · rw [if_pos h, if_pos h]; rfl
  · rw [if_neg h, if_neg h]; rfl
theorem pt1 : Pt 1 ∧ Pt (-1) := by unfold Pt; omega
theorem mvO_84 (f : Int × Int) (c : UInt8) (h : (c.toNat : Int) = 84) : mvO f c = plusO f 1 := by rw [(u8_eq c 84 (by omega)).1 h]; exact mvO_T f
theorem mvO_116 (f : Int × Int) (c : UInt8) (h : (c.toNat : Int) = 116) : mvO f c = plusO f (-1) := by rw [(u8_eq c 116 (by omega)).1 h]; exact mvO_t f
theorem mvO_else (f : Int × Int) (c : UInt8) (h : ¬(c.toNat : Int) = 84) (h2 : ¬(c.toNat : Int) = 116) : mvO f c = some (ovr f) := by
  have g1 : ¬ c = 84 := fun x => h ((u8_eq c 84 (by omega)).2 x)
  have g2 : ¬ c = 116 := fun x => h2 ((u8_eq c 116 (by omega)).2 x)
  unfold mvO
  rw [if_neg g1, if_neg g2]
theorem impl_danced_l0 (s : ByteArray) (h40 : s.size ≤ 2000) (d : Nat) : ∀ (k : Nat) (i : Nat) (f : Int × Int), d + 1000010 ≤ k → i + d = s.size → Fr f.1 f.2 → impl_danced.l0 k s (s.size : Int) (i : Int) f.1 f.2 = some (dR (dnc f (s.data.toList.drop i))) := by
  have hsz : s.data.toList.length = s.size := by simp
  induction d with
  | zero =>
    intro k i f hk hd hf
    obtain ⟨k, rfl⟩ : ∃ m, k = m + 1 := ⟨k - 1, by omega⟩
    simp only [impl_danced.l0]
    rw [if_neg (by omega), List.drop_eq_nil_of_le (by omega)]; rfl
  | succ d ih =>
    intro k i f hk hd hf
    obtain ⟨k, rfl⟩ : ∃ m, k = m + 1 := ⟨k - 1, by omega⟩
    have hi : i < s.data.toList.length := by omega
    have hb' : bt s (i : Int) = (s.data.toList[i].toNat : Int) := bt_get s (i : Int) (by omega) (by omega)
    have e1 : ((i : Int) + 1) = ((i + 1 : Nat) : Int) := by omega
    simp only [impl_danced.l0]
    rw [if_pos (by omega), if_pos (by omega), if_pos (by omega), w64 (by omega), hb', e1, List.drop_eq_getElem_cons hi]
    generalize s.data.toList[i] = c
    show _ = some (dR ((mvO f c).bind fun g => dnc g (List.drop (i + 1) s.data.toList)))
    have tw : ∀ n : Int, Pt n → mvO f c = plusO f n → ((impl_plus.f k f.1 f.2 n).bind fun bt149 => (if bt149.2.2 = true then (impl_danced.l0 k s (s.size : Int) ((i + 1 : Nat) : Int) bt149.1 bt149.2.1) else (some (0, 0, false)))) = some (dR ((mvO f c).bind fun g => dnc g (List.drop (i + 1) s.data.toList))) := by
      intro n hn hm
      rw [impl_plus_ev k (by omega) f.1 f.2 n hf hn, pl_plusO, hm]
      cases hp : plusO (f.1, f.2) n with
      | none => rfl
      | some g => exact ih k (i + 1) g (by omega) (by omega) (plusO_fr hp).1
    by_cases c1 : (c.toNat : Int) = 84
    · rw [if_pos c1]; exact tw 1 pt1.1 (mvO_84 f c c1)
    · rw [if_neg c1]
      by_cases c2 : (c.toNat : Int) = 116
      · rw [if_pos c2]; exact tw (-1) pt1.2 (mvO_116 f c c2)
      · rw [if_neg c2, impl_lowest_over k (by omega) hf, mvO_else f c c1 c2]
        exact ih k (i + 1) (ovr f) (by omega) (by omega) hf.over
theorem impl_danced_ev (k : Nat) (hk : 1002100 ≤ k) (u d : Int) (s : ByteArray) (h40 : s.size ≤ 2000) (hf : Fr u d) : impl_danced.f k u d s = some (dR (dnc (u, d) s.data.toList)) :=
  impl_danced_l0 s h40 s.size k 0 (u, d) (by omega) (by omega) hf
def Lg (u d : Int) (s : ByteArray) : Prop := Fr u d ∧ -1000 ≤ u ∧ u ≤ 1000 ∧ d ≤ 1000 ∧ s.size ≤ 1000
instance (u d : Int) (s : ByteArray) : Decidable (Lg u d s) := by unfold Lg; exact inferInstance
def lgR (u d : Int) (s : ByteArray) : Int × Int × Bool := if Lg u d s ∧ dok s.data.toList = true then dR (dnc (u, d) s.data.toList) else (0, 0, false)
theorem impl_LongFrom_ev (k : Nat) (hk : 1002100 ≤ k) (u d : Int) (s : ByteArray) : impl_LongFrom.f k u d s = some (lgR u d s) := by
  unfold impl_LongFrom.f lgR
  rw [impl_isSmall_ev k (by omega) u d 1000 (by omega)]
  simp only [Option.bind_some, decide_eq_true_eq]
  by_cases hs : (s.size : Int) > 1000
  · have hn : ¬(Lg u d s ∧ dok s.data.toList = true) := fun x => by have := x.1.2.2.2.2; omega
    rw [if_pos hs, if_neg hn]
    split <;> rfl
  · rw [if_neg hs]
    rw [impl_areMoves_ev s (by omega)]
    simp only [Option.bind_some]
    split
    · rename_i h
      by_cases hd : dok s.data.toList = true
      · have hy : Lg u d s ∧ dok s.data.toList = true := ⟨⟨h.1, by omega, by omega, by omega, by omega⟩, hd⟩
        rw [if_pos hd, if_pos hy, impl_danced_ev k hk u d s (by omega) h.1]
        rfl
      · have hn : ¬(Lg u d s ∧ dok s.data.toList = true) := fun x => hd x.2
        rw [if_neg hd, if_neg hn]
    · rename_i h
      have hn : ¬(Lg u d s ∧ dok s.data.toList = true) := fun x => h ⟨x.1.1, by have := x.1.2; omega⟩
      rw [if_neg hn]
theorem tied_ev (k : Nat) (hk : 1000010 ≤ k) (l : List Int) (hl : Bs l) : ∃ u d p', spec_l20Tied.f k l 0 = some (u, d, p') ∧ 0 ≤ p' ∧ p' ≤ 100 := by
  unfold spec_l20Tied.f
  obtain ⟨b, p1, e, h2, h3⟩ := odd_ev k (by omega) l hl 0 9 (by omega) (by omega)
  rw [e]
  simp only [Option.bind_some]
  by_cases hb : b = true
  · rw [if_pos hb]
    obtain ⟨u, d, p2, e2, w1, w2, _⟩ := fraction_ev k (by omega) l hl p1 3 (by omega) (by omega)
    rw [e2]
    exact ⟨_, _, _, rfl, by show 0 ≤ p2; omega, by show p2 ≤ 100; omega⟩
  · rw [if_neg hb]
    obtain ⟨r1, e2, q2⟩ := pick_ev k (by omega) l hl p1 13 (by omega) (by omega)
    rw [e2]
    simp only [Option.bind_some]
    obtain ⟨r2, e3, q3⟩ := pick_ev k (by omega) l hl (p1 + 1) 13 (by omega) (by omega)
    rw [e3]
    simp only [Option.bind_some]
    obtain ⟨r3, e4, q4⟩ := pick_ev k (by omega) l hl (p1 + 1 + 1) 13 (by omega) (by omega)
    rw [e4]
    simp only [Option.bind_some]
    rw [spec_LowestOf_ev k (by omega)]
    simp only [Option.bind_some]
    split
    · exact ⟨_, _, _, rfl, by omega, by omega⟩
    · exact ⟨_, _, _, rfl, by omega, by omega⟩
def twL (a : Int) : List UInt8 := List.replicate a.toNat 84 ++ List.replicate (-a).toNat 116
theorem twL_len (a n : Int) (h : -n ≤ a ∧ a ≤ n) : ((twL a).length : Int) ≤ n := by
  unfold twL; simp; omega
theorem twists_ev (a : Int) (h : -1000000 ≤ a ∧ a ≤ 1000000) : impl_twists.f a = some (ofL (twL a)) := by
  unfold impl_twists.f; rw [if_pos h]; rfl
def fsL : Nat → Int → Int → List UInt8
  | 0, _, _ => []
  | n + 1, u, d => if u = 0 then [] else twL (-(ce u d)) ++ (if u - ce u d * d = 0 then [] else 82 :: fsL n d (-(u - ce u d * d)))
def fsW (u d : Int) : List UInt8 := if d = 0 then [82] else fsL 13 u d
def Sf (u d : Int) : Prop := Fr u d ∧ -12 ≤ u ∧ u ≤ 12 ∧ d ≤ 12
instance (u d : Int) : Decidable (Sf u d) := by unfold Sf; exact inferInstance
theorem sf_step {u d : Int} (h : Sf u d) (hd : 0 < d) : -12 ≤ ce u d ∧ ce u d ≤ 12 ∧ -144 ≤ ce u d * d ∧ ce u d * d ≤ 144 ∧ Fr (u - ce u d * d) d ∧ -12 ≤ u - ce u d * d ∧ u - ce u d * d ≤ 0 ∧ (u - ce u d * d ≠ 0 → ovU (u - ce u d * d) d = d ∧ ovD (u - ce u d * d) = -(u - ce u d * d) ∧ Sf d (-(u - ce u d * d)) ∧ 0 < -(u - ce u d * d) ∧ -(u - ce u d * d) < d) := by
  have hc := ce_spec (u := u) hd
  obtain ⟨hf, h1, h2, h3⟩ := h
  have hb := ce_bd (n := 12) hd ⟨h1, h2⟩ (by omega)
  have hF : Fr (u - ce u d * d) d := by
    have hg := hf.2.2.2.2.2
    refine ⟨by omega, by omega, by omega, by omega, by omega, ?_⟩
    have e : u - ce u d * d = u + (-(ce u d)) * d := by rw [Int.neg_mul]; omega
    rw [e, Int.gcd_add_mul_right_left]
    exact hg
  refine ⟨hb.1, hb.2, by omega, by omega, hF, by omega, by omega, fun hne => ?_⟩
  have ho := hF.over
  have e1 : ovU (u - ce u d * d) d = d := by unfold ovU; rw [if_pos (by omega)]
  have e2 : ovD (u - ce u d * d) = -(u - ce u d * d) := by unfold ovD; rw [if_pos (by omega)]
  rw [e1, e2] at ho
  exact ⟨e1, e2, ⟨ho, by omega, by omega, by omega⟩, by omega, by omega⟩
theorem twL_neg (a : Int) : twL (-a) = List.replicate a.toNat 116 ++ List.replicate (-a).toNat 84 := by
  unfold twL
  rw [Int.neg_neg]
  by_cases h : 0 ≤ a
  · have : (-a).toNat = 0 := by omega
    rw [this]; simp
  · have : a.toNat = 0 := by omega
    rw [this]; simp
theorem sf_len {u d : Int} (h : Sf u d) (hd : 0 < d) : (twL (-(ce u d))).length ≤ 12 := by
  have := sf_step h hd
  have := twL_len (-(ce u d)) 12 (by omega)
  omega
theorem impl_faster_l0 (n : Nat) : ∀ (k : Nat) (m : List UInt8) (u d : Int), 1000010 + n ≤ k → Sf u d → 0 < d → d < n → m.length + 20 * n ≤ 100000 → impl_FasterOf.l0 k (ofL m) u d = some (ofL (m ++ fsL n u d), true) := by
  induction n with
  | zero => intro k m u d hk hs h0 h1; omega
  | succ n ih =>
    intro k m u d hk hs h0 h1 hm
    obtain ⟨k, rfl⟩ : ∃ j, k = j + 1 := ⟨k - 1, by omega⟩
    obtain ⟨c1, c2, c3, c4, c5, c6, c7, c8⟩ := sf_step hs h0
    have hu := hs.2
    have hl := sf_len hs h0
    simp only [impl_FasterOf.l0, fsL]
    by_cases hz : u = 0
    · rw [if_pos hz, if_pos hz]; simp
    · rw [if_neg hz, if_neg hz, if_pos h0, impl_ceiling_ev u d h0 (by omega) (by omega), Option.bind_some, w64 (by omega : -9223372036854775808 ≤ -(ce u d) ∧ _), twists_ev _ (by omega), Option.bind_some, if_pos (by rw [ofL_size, ofL_size]; omega), w64 (by omega : -9223372036854775808 ≤ ce u d * d ∧ _), w64 (by omega : -9223372036854775808 ≤ u - ce u d * d ∧ _), ofL_app]
      by_cases hz2 : u - ce u d * d = 0
      · rw [if_pos hz2, if_pos hz2]; simp
      · obtain ⟨d1, d2, d3, d4, d5⟩ := c8 hz2
        have eR : ofL (m ++ twL (-(ce u d))) ++ (⟨#[82]⟩ : ByteArray) = ofL (m ++ twL (-(ce u d)) ++ [82]) := ofL_app _ [82]
        rw [if_neg hz2, if_neg hz2, if_pos (by rw [ofL_size, List.length_append]; omega), impl_lowest_over k (by omega) c5, Option.bind_some, d1, d2, eR]
        dsimp only
        rw [ih k _ _ _ (by omega) d3 d4 (by omega) (by simp; omega)]
        simp
theorem impl_FasterOf_ev (k : Nat) (hk : 1000100 ≤ k) (u d : Int) : impl_FasterOf.f k u d = some (if Sf u d then (ofL (fsW u d), true) else (ofL [], false)) := by
  unfold impl_FasterOf.f
  rw [impl_isSmall_ev k (by omega) u d 12 (by omega)]
  have e0 : (⟨#[]⟩ : ByteArray) = ofL [] := rfl
  have eR : ofL [] ++ (⟨#[82]⟩ : ByteArray) = ofL [82] := ofL_app [] [82]
  rw [e0, Option.bind_some]
  simp only [decide_eq_true_eq]
  have es : (Fr u d ∧ -12 ≤ u ∧ u ≤ 12 ∧ d ≤ 12) ↔ Sf u d := Iff.rfl
  by_cases h : Sf u d
  · rw [if_pos (es.2 h), if_pos h]
    have hd := h.1.2.2.1
    unfold fsW
    by_cases h0 : d = 0
    · have hu1 := h.1.2.2.2.2.1 h0
      rw [if_pos h0]
      obtain ⟨k, rfl⟩ : ∃ j, k = j + 2 := ⟨k - 2, by omega⟩
      have ho : ovU u d = 0 ∧ ovD u = 1 := by unfold ovU ovD; rw [if_neg (by omega), if_neg (by omega)]; omega
      rw [impl_FasterOf.l0.eq_2, if_neg (by omega), if_neg (by omega), if_pos (by rw [ofL_size]; simp), impl_lowest_over (k + 1) (by omega) h.1, Option.bind_some, ho.1, ho.2, eR]
      dsimp only
      rw [impl_FasterOf.l0.eq_2, if_pos rfl]
    · rw [if_neg h0, impl_faster_l0 13 k [] u d (by omega) h (by omega) (by have := h.2.2.2; omega) (by simp)]
      simp
  · rw [if_neg (fun x => h (es.1 x)), if_neg h]
theorem spec_faster_l2 (x6 : Int) (hx : -1000 ≤ x6 ∧ x6 ≤ 1000) (u d : Int) (K : Nat) (m : List UInt8) (v : Option (ByteArray × Bool)) (hv : ∀ k, K ≤ k → ((spec_PlusOf.f k u d (-x6)).bind fun bt128 => (if bt128.1 = 0 then (spec_FasterOf.l0 k (ofL (m ++ List.replicate (-x6).toNat 84)) bt128.1 bt128.2.1) else ((spec_OverOf.f k bt128.1 bt128.2.1).bind fun bt131 => (if (ofL (m ++ List.replicate (-x6).toNat 84)).size + 1 ≤ 9223372036854775807 then (spec_FasterOf.l0 k ((ofL (m ++ List.replicate (-x6).toNat 84)) ++ (⟨#[82]⟩ : ByteArray)) bt131.1 bt131.2) else (none))))) = v) (hm : m.length ≤ 200000) (n : Nat) : ∀ (k j : Nat), K + n < k → j + n = (-x6).toNat → spec_FasterOf.l2 k (ofL (m ++ List.replicate j 84)) x6 (j : Int) u d = v := by
  induction n with
  | zero =>
    intro k j hk hj
    obtain ⟨k, rfl⟩ : ∃ q, k = q + 1 := ⟨k - 1, by omega⟩
    rw [spec_FasterOf.l2.eq_2, w64 (by omega), if_neg (by omega)]
    have : j = (-x6).toNat := by omega
    rw [this]
    exact hv k (by omega)
  | succ n ih =>
    intro k j hk hj
    obtain ⟨k, rfl⟩ : ∃ q, k = q + 1 := ⟨k - 1, by omega⟩
    have e : ofL (m ++ List.replicate j 84) ++ (⟨#[84]⟩ : ByteArray) = ofL (m ++ List.replicate (j + 1) 84) := by
      have := ofL_app (m ++ List.replicate j 84) [84]
      rw [List.append_assoc, ← List.replicate_succ'] at this
      exact this
    have e1 : (j : Int) + 1 = ((j + 1 : Nat) : Int) := by omega
    rw [spec_FasterOf.l2.eq_2, w64 (by omega), if_pos (by omega), if_pos (by rw [ofL_size]; simp; omega), w64 (by omega), e1, e]
    exact ih k (j + 1) (by omega) (by omega)
theorem spec_faster_l1 (x6 : Int) (hx : -1000 ≤ x6 ∧ x6 ≤ 1000) (u d : Int) (K : Nat) (m : List UInt8) (v : Option (ByteArray × Bool)) (hv : ∀ k, K ≤ k → spec_FasterOf.l2 k (ofL (m ++ List.replicate x6.toNat 116)) x6 0 u d = v) (hm : m.length ≤ 100000) (n : Nat) : ∀ (k j : Nat), K + n < k → j + n = x6.toNat → spec_FasterOf.l1 k (ofL (m ++ List.replicate j 116)) x6 (j : Int) u d = v := by
  induction n with
  | zero =>
    intro k j hk hj
    obtain ⟨k, rfl⟩ : ∃ q, k = q + 1 := ⟨k - 1, by omega⟩
    rw [spec_FasterOf.l1.eq_2, if_neg (by omega)]
    have : j = x6.toNat := by omega
    rw [this]
    exact hv k (by omega)
  | succ n ih =>
    intro k j hk hj
    obtain ⟨k, rfl⟩ : ∃ q, k = q + 1 := ⟨k - 1, by omega⟩
    have e : ofL (m ++ List.replicate j 116) ++ (⟨#[116]⟩ : ByteArray) = ofL (m ++ List.replicate (j + 1) 116) := by
      have := ofL_app (m ++ List.replicate j 116) [116]
      rw [List.append_assoc, ← List.replicate_succ'] at this
      exact this
    have e1 : (j : Int) + 1 = ((j + 1 : Nat) : Int) := by omega
    rw [spec_FasterOf.l1.eq_2, if_pos (by omega), if_pos (by rw [ofL_size]; simp; omega), w64 (by omega), e1, e]
    exact ih k (j + 1) (by omega) (by omega)
theorem spec_under_ev (u d : Int) (hd : 0 < d) (hb : d ≤ 1000) (hu : -1000 ≤ u ∧ u ≤ 1000) : spec_l3Under.f (wrap64 (-u)) d = some (-(ce u d)) := by
  unfold spec_l3Under.f
  have b := tdiv_le (-u) d
  have f := tdiv_facts (-u) d hd
  have w0 : wrap64 (-u) = -u := w64 (by omega)
  rw [w0]
  have w1 : wrap64 (Int.tdiv (-u) d) = Int.tdiv (-u) d := w64 (by omega)
  have pm := mulb (a := Int.tdiv (-u) d) (b := d) (by unfold Pt; omega) (by unfold Pt; omega)
  have w2 : wrap64 (Int.tdiv (-u) d * d) = Int.tdiv (-u) d * d := w64 (by omega)
  rw [if_neg (by omega), w1, w2]
  by_cases h : Int.tdiv (-u) d * d > -u
  · rw [if_pos h, w64 (by omega)]
    have : -(Int.tdiv (-u) d - 1) = ce u d := by
      refine ce_unique hd ?_ ?_ <;> rw [Int.neg_mul, Int.sub_mul, Int.one_mul]
      · have h' : -u < 0 := by
          rcases ltge (-u) 0 with x | x
          · exact x
          · have := f.1 x; omega
        have := f.2 h'
        omega
      · omega
    congr 1; omega
  · rw [if_neg h]
    have : -(Int.tdiv (-u) d) = ce u d := by
      refine ce_unique hd ?_ ?_ <;> rw [Int.neg_mul]
      · omega
      · rcases ltge (-u) 0 with x | x
        · have := f.2 x; omega
        · have := f.1 x; omega
    congr 1; omega
theorem spec_faster_l0 (n : Nat) : ∀ (k : Nat) (m : List UInt8) (u d : Int), 1000010 + 40 * n ≤ k → Sf u d → 0 < d → d < n → m.length + 20 * n ≤ 10000 → spec_FasterOf.l0 k (ofL m) u d = some (ofL (m ++ fsL n u d), true) := by
  induction n with
  | zero => intro k m u d hk hs h0 h1; omega
  | succ n ih =>
    intro k m u d hk hs h0 h1 hm
    obtain ⟨k, rfl⟩ : ∃ j, k = j + 1 := ⟨k - 1, by omega⟩
    obtain ⟨c1, c2, c3, c4, c5, c6, c7, c8⟩ := sf_step hs h0
    have hu := hs.2
    have hl := sf_len hs h0
    rw [spec_FasterOf.l0.eq_2]
    simp only [fsL]
    by_cases hz : u = 0
    · rw [if_pos hz, if_pos hz]; simp
    · rw [if_neg hz, if_neg hz, if_pos h0, spec_under_ev u d h0 (by omega) (by omega), Option.bind_some, Int.neg_neg, w64 (by omega : -9223372036854775808 ≤ ce u d ∧ _)]
      have em : m ++ List.replicate (ce u d).toNat 116 ++ List.replicate (-(ce u d)).toNat 84 = m ++ twL (-(ce u d)) := by rw [twL_neg, List.append_assoc]
      have hml : (m ++ List.replicate (ce u d).toNat 116).length ≤ 200000 := by simp; omega
      have st0 := spec_faster_l1 (ce u d) (by omega) u d (1000010 + 40 * n + 14) m (some (ofL (m ++ (twL (-(ce u d)) ++ (if u - ce u d * d = 0 then [] else 82 :: fsL n d (-(u - ce u d * d))))), true)) ?_ (by omega) (ce u d).toNat k 0 (by omega) (by omega)
      · have e00 : m ++ List.replicate 0 (116 : UInt8) = m := by simp
        rw [e00] at st0
        exact st0
      · intro k' hk'
        have st1 := spec_faster_l2 (ce u d) (by omega) u d (1000010 + 40 * n) (m ++ List.replicate (ce u d).toNat 116) (some (ofL (m ++ (twL (-(ce u d)) ++ (if u - ce u d * d = 0 then [] else 82 :: fsL n d (-(u - ce u d * d))))), true)) ?_ hml (-(ce u d)).toNat k' 0 (by omega) (by omega)
        · have e00 : m ++ List.replicate (ce u d).toNat 116 ++ List.replicate 0 (84 : UInt8) = m ++ List.replicate (ce u d).toNat 116 := by simp
          rw [e00] at st1
          exact st1
        · intro k2 hk2
          have hp : Fr u d ∧ Pt (-(ce u d)) := ⟨hs.1, by unfold Pt; omega⟩
          have ep : u + -(ce u d) * d = u - ce u d * d := by rw [Int.neg_mul]; omega
          rw [spec_PlusOf_ev k2 (by omega), if_pos hp, em]
          unfold pl
          rw [ep, if_pos c5, Option.bind_some]
          dsimp only
          by_cases hz2 : u - ce u d * d = 0
          · obtain ⟨k2, rfl⟩ : ∃ j, k2 = j + 1 := ⟨k2 - 1, by omega⟩
            rw [if_pos hz2, if_pos hz2, spec_FasterOf.l0.eq_2, if_pos hz2]; simp
          · obtain ⟨d1, d2, d3, d4, d5⟩ := c8 hz2
            have eR : ofL (m ++ twL (-(ce u d))) ++ (⟨#[82]⟩ : ByteArray) = ofL (m ++ twL (-(ce u d)) ++ [82]) := ofL_app _ [82]
            rw [if_neg hz2, if_neg hz2, spec_OverOf_ev k2 (by omega), if_pos c5, Option.bind_some, if_pos (by rw [ofL_size, List.length_append]; omega), d1, d2, eR]
            dsimp only
            rw [ih k2 _ _ _ (by omega) d3 d4 (by omega) (by simp; omega)]
            simp
theorem spec_FasterOf_ev (k : Nat) (hk : 1001000 ≤ k) (u d : Int) : spec_FasterOf.f k u d = some (if Sf u d then (ofL (fsW u d), true) else (ofL [], false)) := by
  unfold spec_FasterOf.f
  obtain ⟨k, rfl⟩ : ∃ j, k = j + 3 := ⟨k - 3, by omega⟩
  have e0 : (⟨#[]⟩ : ByteArray) = ofL [] := rfl
  have eR : ofL [] ++ (⟨#[82]⟩ : ByteArray) = ofL [82] := ofL_app [] [82]
  have jt : spec_FasterOf.j0 (k + 3) true u d = some (ofL [], false) := by rw [spec_FasterOf.j0.eq_2, if_pos rfl]; rfl
  rw [spec_FractionOk_ev (k + 3) (by omega), spec_l1In_ev, Option.bind_some, Option.bind_some]
  simp only [decide_eq_true_eq]
  by_cases h1 : Fr u d
  · rw [if_pos h1]
    by_cases h2 : -12 ≤ u ∧ u ≤ 12
    · rw [if_pos h2]
      by_cases h3 : d > 12
      · rw [decide_eq_true h3, jt, if_neg (by intro x; have := x.2.2.2; omega)]
      · have hs : Sf u d := ⟨h1, h2.1, h2.2, by omega⟩
        have hd := h1.2.2.1
        rw [decide_eq_false h3, if_pos hs, spec_FasterOf.j0.eq_2, if_neg (by simp), e0]
        unfold fsW
        by_cases h0 : d = 0
        · have hu1 := h1.2.2.2.2.1 h0
          have ho : ovU u d = 0 ∧ ovD u = 1 := by unfold ovU ovD; rw [if_neg (by omega), if_neg (by omega)]; omega
          rw [if_pos h0, spec_FasterOf.l0.eq_2, if_neg (by omega), if_neg (by omega), spec_OverOf_ev (k + 1) (by omega), if_pos h1, Option.bind_some, if_pos (by rw [ofL_size]; simp), ho.1, ho.2, eR]
          dsimp only
          rw [spec_FasterOf.l0.eq_2, if_pos rfl]
        · rw [if_neg h0, spec_faster_l0 13 (k + 2) [] u d (by omega) hs (by omega) (by omega) (by simp)]
          simp
    · rw [if_neg h2, jt, if_neg (fun x => h2 ⟨x.2.1, x.2.2.1⟩)]
  · rw [if_neg h1, jt, if_neg (fun x => h1 x.1)]
def okF (u d : Int) : Bool := decide (dnc (u, d) (fsW u d) = some (0, 1)) && (dok (fsW u d) && decide ((fsW u d).length ≤ 900))
set_option maxRecDepth 100000 in
theorem okF_all : ((List.range 25).all fun a => (List.range 13).all fun b => !decide (Fr ((a : Int) - 12) (b : Int)) || okF ((a : Int) - 12) (b : Int)) = true := by decide +kernel
theorem okF_of {u d : Int} (h : Sf u d) : okF u d = true := by
  have hd := h.1.2.2.1
  have h2 := h.2
  have e := okF_all
  rw [List.all_eq_true] at e
  have e1 := e (u + 12).toNat (by rw [List.mem_range]; omega)
  rw [List.all_eq_true] at e1
  have e2 := e1 d.toNat (by rw [List.mem_range]; omega)
  have q1 : ((u + 12).toNat : Int) - 12 = u := by omega
  have q2 : (d.toNat : Int) = d := by omega
  rw [q1, q2, decide_eq_true h.1] at e2
  simpa using e2
theorem bk_three (c : UInt8) : bk c = if c = 84 then 116 else if c = 116 then 84 else 82 := rfl
theorem FnFasterOf_l0 (l : List UInt8) (hl : l.length ≤ 1000) (u d : Int) (v : Option Bool) (hv : ∀ k, 2000000 ≤ k → laws_FnFasterOf.l0 k (ofL l) (ofL (backL l)) (-1) u d = v) (n : Nat) : ∀ (k : Nat), n ≤ l.length → 2000000 + n ≤ k → laws_FnFasterOf.l0 k (ofL l) (ofL (backL (l.drop n))) ((n : Int) - 1) u d = v := by
  induction n with
  | zero =>
    intro k hi hk
    exact hv k (by omega)
  | succ n ih =>
    intro k hi hk
    obtain ⟨k, rfl⟩ : ∃ m, k = m + 1 := ⟨k - 1, by omega⟩
    simp only [laws_FnFasterOf.l0]
    have hn : n < l.length := by omega
    have e1 : (((n + 1 : Nat) : Int) - 1) = (n : Int) := by omega
    have eb : ∀ c : UInt8, bk l[n] = c → ofL (backL (l.drop (n + 1))) ++ ofL [c] = ofL (backL (l.drop n)) := by
      intro c hc
      rw [ofL_app, List.drop_eq_getElem_cons hn, backL_cons, hc]
    have hs : (ofL (backL (l.drop (n + 1)))).size + 1 ≤ 9223372036854775807 := by
      rw [ofL_size, backL_len, List.length_drop]; omega
    have b1 : (⟨#[116]⟩ : ByteArray) = ofL [116] := rfl
    have b2 : (⟨#[84]⟩ : ByteArray) = ofL [84] := rfl
    have b3 : (⟨#[82]⟩ : ByteArray) = ofL [82] := rfl
    rw [e1, ofL_size, if_pos (by omega), if_pos (by omega), if_pos (by omega), w64 (by omega), bt_ofL l n hn]
    have hx : ((l[n].toNat : Int) = 84) ↔ l[n] = 84 := u8_eq l[n] 84 (by omega)
    have hx2 : ((l[n].toNat : Int) = 116) ↔ l[n] = 116 := u8_eq l[n] 116 (by omega)
    have hb := bk_three l[n]
    by_cases h : l[n] = 84
    · rw [if_pos h] at hb
      rw [if_pos (hx.2 h), if_pos hs, b1, eb _ hb]
      exact ih k (by omega) (by omega)
    · rw [if_neg h] at hb
      rw [if_neg (fun y => h (hx.1 y))]
      by_cases h2 : l[n] = 116
      · rw [if_pos h2] at hb
        rw [if_pos (hx2.2 h2), if_pos hs, b2, eb _ hb]
        exact ih k (by omega) (by omega)
      · rw [if_neg h2] at hb
        rw [if_neg (fun y => h2 (hx2.1 y)), if_pos hs, b3, eb _ hb]
        exact ih k (by omega) (by omega)
theorem FnFasterOf (l0 : List Int) (hw : ∀ x ∈ l0, (Lit.int .u8 x).wf = true) : ∃ k, laws_FnFasterOf.f k l0 = some true := by
  refine ⟨3000001, ?_⟩
  unfold laws_FnFasterOf.f
  by_cases h : (l0.length : Int) > 1048576
  · rw [if_pos h]
  · rw [if_neg h]
    unfold spec_DrawFasterOf.f
    obtain ⟨m, e, hm⟩ := open_ev l0 hw
    obtain ⟨u, d, p', e2, _⟩ := tied_ev 3000001 (by omega) m hm
    rw [e]
    simp only [Option.bind_some]
    rw [e2]
    simp only [Option.bind_some]
    rw [impl_FasterOf_ev _ (by omega), spec_FasterOf_ev _ (by omega)]
    simp only [Option.bind_some]
    rw [if_pos trivial]
    rw [show ∀ x : Bool, (x != x) = false from fun x => by cases x <;> rfl]
    simp only [laws_FnFasterOf.j0]
    rw [if_neg (by simp)]
    by_cases hS : Sf u d
    · rw [if_pos hS]
      have ho := okF_of hS
      unfold okF at ho
      simp only [Bool.and_eq_true, decide_eq_true_eq] at ho
      obtain ⟨hdn, hok, hlen⟩ := ho
      have h3 := hS.2
      have hF0 : Fr ((u, d) : Int × Int).1 ((u, d) : Int × Int).2 := hS.1
      have hbk := dnc_back (fsW u d) hF0 hok hdn
      have hbl : (backL (fsW u d)).length = (fsW u d).length := backL_len _
      have hsn : (ofL (fsW u d), true).2 = true := rfl
      have ez : (⟨#[]⟩ : ByteArray) = ofL (backL ((fsW u d).drop (fsW u d).length)) := by rw [List.drop_length]; rfl
      rw [if_pos hsn, ofL_size, w64 (by omega), ez]
      refine FnFasterOf_l0 (fsW u d) (by omega) u d (some true) ?_ (fsW u d).length 3000000 (by omega) (by omega)
      intro k hk
      obtain ⟨k, rfl⟩ : ∃ m, k = m + 1 := ⟨k - 1, by omega⟩
      simp only [laws_FnFasterOf.l0]
      have hF : Fr 0 1 := by decide
      have hy : Lg u d (ofL (fsW u d)) ∧ dok (ofL (fsW u d)).data.toList = true := ⟨⟨hS.1, by omega, by omega, by omega, by rw [ofL_size]; omega⟩, by rw [ofL_data]; exact hok⟩
      have eg : lgR u d (ofL (fsW u d)) = (0, 1, true) := by
        unfold lgR
        rw [if_pos hy, ofL_data, hdn]; rfl
      have hy2 : Lg 0 1 (ofL (backL (fsW u d))) ∧ dok (ofL (backL (fsW u d))).data.toList = true := ⟨⟨hF, by omega, by omega, by omega, by rw [ofL_size]; omega⟩, by rw [ofL_data]; exact dok_backL _ hok⟩
      have eg2 : lgR 0 1 (ofL (backL (fsW u d))) = (u, d, true) := by
        unfold lgR
        rw [if_pos hy2, ofL_data, hbk]; rfl
      rw [if_neg (by omega), impl_LongFrom_ev _ (by omega), Option.bind_some, eg, impl_LongFrom_ev _ (by omega), Option.bind_some, eg2]
      simp
    · rw [if_neg hS, if_neg (by simp), if_pos (by rw [ofL_toList]), alive_ev _ (by omega)]; rfl
end Go.Proofs.YtflbkfdmhaenkaaDoor.Pure
