/- What the walked law FnSameOk computes, answers true. -/
import Derived.Test.YtcahmfhlmclgkaaDoorPFnSameOkx9
import Derived.OpenShut
namespace Go.Proofs.YtcahmfhlmclgkaaDoor.Pure
open Go.RowKit Go.Proofs.YtcahmfhlmclgkaaDoor.PFnSameOk Go.Proofs.YtcahmfhlmclgkaaDoorW.PrintWords Go.Proofs.YtcahmfhlmclgkaaDoorW.PrintLast Go.Proofs.YtcahmfhlmclgkaaDoorW.PrintMore
set_option linter.unusedVariables false
set_option linter.unusedSimpArgs false
theorem st {P : Prop} [Decidable P] (h : P) : some true = some (decide P) := by simp [h]
theorem sf {P : Prop} [Decidable P] (h : ¬P) : some false = some (decide P) := by simp [h]
theorem sd {P Q : Prop} [Decidable P] [Decidable Q] (h : P ↔ Q) : some (decide P) = some (decide Q) := by simp [h]
theorem w64 {n : Int} (h : -9223372036854775808 ≤ n ∧ n ≤ 9223372036854775807) : wrap64 n = n := by unfold wrap64; omega
def Fr (u d : Int) : Prop := -1000000 ≤ u ∧ u ≤ 1000000 ∧ 0 ≤ d ∧ d ≤ 1000000 ∧ (d = 0 → u = 1) ∧ (Int.gcd u d = 1)
instance (u d : Int) : Decidable (Fr u d) := by unfold Fr; exact inferInstance
def Pt (n : Int) : Prop := -1000000 ≤ n ∧ n ≤ 1000000
instance (n : Int) : Decidable (Pt n) := by unfold Pt; exact inferInstance
theorem gcd_step (a b : Int) : Int.gcd b (Int.tmod a b) = Int.gcd a b := by
  unfold Int.gcd
  rw [Int.natAbs_tmod, Nat.gcd_comm a.natAbs b.natAbs, Nat.gcd_rec b.natAbs a.natAbs, Nat.gcd_comm]
theorem tmod_lt (a b : Int) (h : b ≠ 0) : (Int.tmod a b).natAbs < b.natAbs := by
  rw [Int.natAbs_tmod]
  exact Nat.mod_lt _ (by omega)
theorem tdiv_le (a b : Int) : (Int.tdiv a b).natAbs ≤ a.natAbs := by
  rw [Int.natAbs_tdiv]
  exact Nat.div_le_self _ _
theorem tdiv_w (a b : Int) (h : -1000000 ≤ a ∧ a ≤ 1000000) : wrap64 (Int.tdiv a b) = Int.tdiv a b := by
  have := tdiv_le a b
  exact w64 (by omega)
theorem gcd_le_pt (a b : Int) (ha : Pt a) (hb : Pt b) : (Int.gcd a b : Int) ≤ 1000000 := by
  unfold Pt at ha hb
  by_cases h : a = 0
  · subst h
    rw [Int.zero_gcd]
    omega
  · have := Int.gcd_le_natAbs_left b h
    omega
theorem gcd_pos (a b : Int) (h : ¬(a = 0 ∧ b = 0)) : 0 < Int.gcd a b := by
  rcases Nat.eq_zero_or_pos (Int.gcd a b) with h' | h'
  · exact absurd (Int.gcd_eq_zero_iff.mp h') h
  · exact h'
def sg (u d : Int) : Int := if d < 0 ∨ (d = 0 ∧ u < 0) then -(Int.gcd u d : Int) else (Int.gcd u d : Int)
def lowU (u d : Int) : Int := Int.tdiv u (sg u d)
def lowD (u d : Int) : Int := Int.tdiv d (sg u d)
theorem mulb {a b : Int} (ha : Pt a) (hb : Pt b) : -1000000000000 ≤ a * b ∧ a * b ≤ 1000000000000 := by
  unfold Pt at ha hb
  have h1 : a.natAbs ≤ 1000000 := by omega
  have h2 : b.natAbs ≤ 1000000 := by omega
  have := Nat.mul_le_mul h1 h2
  rw [← Int.natAbs_mul] at this
  omega
theorem wmul {a b : Int} (ha : Pt a) (hb : Pt b) : wrap64 (a * b) = a * b := by
  have := mulb ha hb
  exact w64 (by omega)
theorem Fr.pu {u d : Int} (h : Fr u d) : Pt u := ⟨h.1, h.2.1⟩
theorem Fr.pd {u d : Int} (h : Fr u d) : Pt d := by unfold Fr at h; unfold Pt; omega
theorem Fr.ne {u d : Int} (h : Fr u d) : ¬(-d = 0 ∧ u = 0) := by
  unfold Fr at h; omega
theorem Fr.wn {u d : Int} (h : Fr u d) : wrap64 (-d) = -d := by
  unfold Fr at h; exact w64 (by omega)
theorem Fr.pn {u d : Int} (h : Fr u d) : Pt (-d) := by
  unfold Fr at h; unfold Pt; omega
def ovU (u d : Int) : Int := if u ≤ 0 then d else -d
def ovD (u : Int) : Int := if u ≤ 0 then -u else u
theorem low_one {u d : Int} (h : Int.gcd u d = 1) : lowU u d = (if d < 0 ∨ (d = 0 ∧ u < 0) then -u else u) ∧ lowD u d = (if d < 0 ∨ (d = 0 ∧ u < 0) then -d else d) := by
  unfold lowU lowD sg
  rw [h]
  split
  · simp
  · simp
theorem low_over {u d : Int} (h : Fr u d) : lowU (-d) u = ovU u d ∧ lowD (-d) u = ovD u := by
  have hg : Int.gcd (-d) u = 1 := by rw [Int.neg_gcd, Int.gcd_comm]; exact h.2.2.2.2.2
  obtain ⟨e1, e2⟩ := low_one hg
  rw [e1, e2]
  unfold Fr at h
  unfold ovU ovD
  by_cases h1 : u < 0
  · rw [if_pos (Or.inl h1), if_pos (Or.inl h1), if_pos (by omega), if_pos (by omega)]; omega
  · by_cases h2 : u = 0
    · have : d = 1 ∨ d ≠ 1 := by omega
      have hd : 0 < d := by omega
      rw [if_pos (Or.inr ⟨h2, by omega⟩), if_pos (Or.inr ⟨h2, by omega⟩), if_pos (by omega), if_pos (by omega)]; omega
    · rw [if_neg (by omega), if_neg (by omega), if_neg (by omega), if_neg (by omega)]; omega
theorem Fr.over {u d : Int} (h : Fr u d) : Fr (ovU u d) (ovD u) := by
  have hn := h.ne
  have hg := h.2.2.2.2.2
  have hc : Int.gcd d u = 1 := by rw [Int.gcd_comm]; exact hg
  unfold Fr at h
  unfold ovU ovD
  by_cases h1 : u ≤ 0
  · rw [if_pos h1, if_pos h1]
    exact ⟨by omega, by omega, by omega, by omega, fun x => by
      have hu : u = 0 := by omega
      subst hu
      rw [Int.gcd_zero_right] at hc
      omega, by rw [Int.gcd_neg]; exact hc⟩
  · rw [if_neg h1, if_neg h1]
    exact ⟨by omega, by omega, by omega, by omega, by omega, by rw [Int.neg_gcd]; exact hc⟩
def pl (u d n : Int) : Int × Int × Bool := if Fr (u + n * d) d then (u + n * d, d, true) else (0, 0, false)
theorem wplus {u d n : Int} (hu : Pt u) (hd : Pt d) (hn : Pt n) : wrap64 (u + wrap64 (n * d)) = u + n * d := by
  have := mulb hn hd
  rw [wmul hn hd]
  unfold Pt at hu
  exact w64 (by omega)
theorem ltge (a b : Int) : a < b ∨ b ≤ a := by omega
def t2 (n : Int) : Bool := decide (2 ≤ n ∧ n ≤ 60)
def ofL (l : List UInt8) : ByteArray := ⟨l.toArray⟩
theorem ofL_size (l : List UInt8) : (ofL l).size = l.length := by simp [ofL, ByteArray.size]
theorem ofL_app (l m : List UInt8) : ofL l ++ ofL m = ofL (l ++ m) := by
  apply ByteArray.ext; simp [ofL]
theorem ofL_data (l : List UInt8) : (ofL l).data.toList = l := by simp [ofL]
theorem bt_get (s : ByteArray) (i : Int) (h0 : 0 ≤ i) (h : i.toNat < s.size) : bt s i = (s.data.toList[i.toNat]'(by simpa using h)).toNat := by
  unfold bt
  rw [dif_pos h]
  rfl
theorem rd_eq (xs : List Int) (i : Int) (h0 : 0 ≤ i) (h : i.toNat < xs.length) : rd xs i = xs[i.toNat] := by unfold rd; simp [h]
def mv (c : UInt8) : Bool := c == 84 || c == 116 || c == 82
def dok (l : List UInt8) : Bool := l.all mv
theorem mv_iff (c : UInt8) : mv c = true ↔ ((c.toNat : Int) = 84 ∨ (c.toNat : Int) = 116 ∨ (c.toNat : Int) = 82) := by
  unfold mv
  simp only [Bool.or_eq_true, beq_iff_eq]
  have e1 : (84 : UInt8).toNat = 84 := rfl
  have e2 : (116 : UInt8).toNat = 116 := rfl
  have e3 : (82 : UInt8).toNat = 82 := rfl
  rw [← UInt8.toNat_inj, ← UInt8.toNat_inj, ← UInt8.toNat_inj, e1, e2, e3]
  omega
def Dn (s : ByteArray) : Prop := dok s.data.toList = true ∧ s.size ≤ 40
instance (s : ByteArray) : Decidable (Dn s) := by unfold Dn; exact inferInstance
def bk (c : UInt8) : UInt8 := if c = 84 then 116 else if c = 116 then 84 else 82
def backL (l : List UInt8) : List UInt8 := (l.reverse).map bk
theorem u8_eq (c : UInt8) (n : Nat) (hn : n < 256) : ((c.toNat : Int) = (n : Int)) ↔ c = UInt8.ofNat n := by
  constructor
  · intro h
    have : c.toNat = n := by omega
    rw [← UInt8.toNat_inj, this]
    simp
    omega
  · intro h
    rw [h]
    simp
    omega
theorem backL_take (s : List UInt8) (n : Nat) (h : n < s.length) : backL (s.take (n + 1)) = bk s[n] :: backL (s.take n) := by
  unfold backL
  rw [List.take_succ_eq_append_getElem h, List.reverse_append]
  simp
theorem impl_isPart_ev (n : Int) : impl_isPart.f n = some (decide (Pt n)) := by
  unfold impl_isPart.f Pt
  split
  · exact sd (by omega)
  · exact sf (by omega)
theorem spec_l1In_ev (n a b : Int) : spec_l1In.f n a b = some (decide (a ≤ n ∧ n ≤ b)) := by
  unfold spec_l1In.f
  split
  · exact sd (by omega)
  · exact sf (by omega)
theorem impl_gcd_l0 (n : Nat) : ∀ (k : Nat) (a b : Int), b.natAbs ≤ n → n < k → a.natAbs ≤ 4611686018427387904 → b.natAbs ≤ 4611686018427387904 → impl_gcd.l0 k a b = some (Int.gcd a b : Int) := by
  induction n with
  | zero =>
    intro k a b hb hk ha _
    obtain ⟨k, rfl⟩ : ∃ m, k = m + 1 := ⟨k - 1, by omega⟩
    have hb0 : b = 0 := by omega
    simp only [impl_gcd.l0]
    rw [if_pos hb0, w64 (by omega), hb0, Int.gcd_zero_right]
    unfold mx; congr 1; split <;> omega
  | succ n ih =>
    intro k a b hb hk ha hb'
    obtain ⟨k, rfl⟩ : ∃ m, k = m + 1 := ⟨k - 1, by omega⟩
    simp only [impl_gcd.l0]
    by_cases h : b = 0
    · rw [if_pos h, w64 (by omega), h, Int.gcd_zero_right]
      unfold mx; congr 1; split <;> omega
    · rw [if_neg h]
      have := tmod_lt a b h
      rw [ih k b (Int.tmod a b) (by omega) (by omega) (by omega) (by omega), gcd_step]
theorem impl_gcd_ev (k : Nat) (hk : 1000002 ≤ k) (a b : Int) (ha : Pt a) (hb : Pt b) : impl_gcd.f k a b = some (Int.gcd a b : Int) := by
  unfold Pt at ha hb
  exact impl_gcd_l0 1000001 k a b (by omega) (by omega) (by omega) (by omega)
theorem spec_l1Common_l0 (n : Nat) : ∀ (k : Nat) (a b : Int), 0 ≤ a → 0 ≤ b → b.natAbs ≤ n → n < k → spec_l1Common.l0 k a b = some (Int.gcd a b : Int) := by
  induction n with
  | zero =>
    intro k a b ha hb0 hb hk
    obtain ⟨k, rfl⟩ : ∃ m, k = m + 1 := ⟨k - 1, by omega⟩
    have hb0 : b = 0 := by omega
    subst hb0
    simp only [spec_l1Common.l0]
    rw [if_neg (by omega), Int.gcd_zero_right]
    congr 1; omega
  | succ n ih =>
    intro k a b ha hb0 hb hk
    obtain ⟨k, rfl⟩ : ∃ m, k = m + 1 := ⟨k - 1, by omega⟩
    simp only [spec_l1Common.l0]
    by_cases h : b = 0
    · subst h
      rw [if_neg (by omega), Int.gcd_zero_right]
      congr 1; omega
    · rw [if_pos (by omega), if_neg h]
      have := tmod_lt a b h
      have h2 := Int.tmod_nonneg b ha
      rw [ih k b (Int.tmod a b) hb0 h2 (by omega) (by omega), gcd_step]
theorem mx_abs (a : Int) (h : Pt a) : mx a (wrap64 (-a)) = (a.natAbs : Int) := by
  unfold Pt at h
  rw [w64 (by omega)]
  unfold mx; split <;> omega
theorem spec_l1Common_ev (k : Nat) (hk : 1000002 ≤ k) (a b : Int) (ha : Pt a) (hb : Pt b) : spec_l1Common.f k a b = some (Int.gcd a b : Int) := by
  unfold spec_l1Common.f
  rw [mx_abs a ha, mx_abs b hb, spec_l1Common_l0 1000001 k _ _ (by omega) (by omega) (by unfold Pt at hb; omega) (by omega)]
  rfl
theorem impl_isFraction_ev (k : Nat) (hk : 1000002 ≤ k) (u d : Int) : impl_isFraction.f k u d = some (decide (Fr u d)) := by
  unfold impl_isFraction.f
  simp only [impl_isPart_ev, Option.bind_some, decide_eq_true_eq]
  by_cases hu : Pt u
  · rw [if_pos hu]
    by_cases h1 : d < 0
    · rw [if_pos h1]; exact sf (by intro h; unfold Fr at h; omega)
    · rw [if_neg h1]
      by_cases h2 : d > 1000000
      · rw [if_pos h2]; exact sf (by intro h; unfold Fr at h; omega)
      · rw [if_neg h2]
        have hd : Pt d := by unfold Pt; omega
        rw [impl_gcd_ev k hk u d hu hd]
        unfold Pt at hu
        have e : ((Int.gcd u d : Int) == 1) = decide (Int.gcd u d = 1) := by rw [Bool.eq_iff_iff]; simp; omega
        simp only [Option.bind_some, e]
        by_cases h3 : d = 0
        · rw [if_pos h3]
          by_cases h4 : u = 1
          · rw [if_pos h4]; exact sd (by unfold Fr; omega)
          · rw [if_neg h4]; exact sf (by intro h; unfold Fr at h; omega)
        · rw [if_neg h3]; exact sd (by unfold Fr; omega)
  · rw [if_neg hu]; exact sf (by intro h; unfold Fr at h; unfold Pt at hu; omega)
theorem impl_FractionOk_ev (k : Nat) (hk : 1000002 ≤ k) (u d : Int) : impl_FractionOk.f k u d = some (decide (Fr u d)) := by
  unfold impl_FractionOk.f
  rw [impl_isFraction_ev k hk]; rfl
theorem spec_FractionOk_ev (k : Nat) (hk : 1000002 ≤ k) (u d : Int) : spec_FractionOk.f k u d = some (decide (Fr u d)) := by
  unfold spec_FractionOk.f
  simp only [spec_l1In_ev, Option.bind_some, decide_eq_true_eq]
  by_cases hu : -1000000 ≤ u ∧ u ≤ 1000000
  · rw [if_pos hu]
    by_cases hd : 0 ≤ d ∧ d ≤ 1000000
    · rw [if_pos hd, spec_l1Common_ev k hk u d hu (by unfold Pt; omega)]
      simp only [Option.bind_some]
      by_cases h1 : (Int.gcd u d : Int) = 1
      · rw [if_pos h1]
        by_cases h3 : d > 0
        · rw [if_pos h3]; exact st (by unfold Fr; omega)
        · rw [if_neg h3]
          have e : (u == 1) = decide (u = 1) := by rw [Bool.eq_iff_iff]; simp
          rw [e]; exact sd (by unfold Fr; omega)
      · rw [if_neg h1]; exact sf (by intro h; unfold Fr at h; omega)
    · rw [if_neg hd]; exact sf (by intro h; unfold Fr at h; omega)
  · rw [if_neg hu]; exact sf (by intro h; unfold Fr at h; omega)
theorem impl_lowest_ev (k : Nat) (hk : 1000002 ≤ k) (u d : Int) (hu : Pt u) (hd : Pt d) (h : ¬(u = 0 ∧ d = 0)) : impl_lowest.f k u d = some (lowU u d, lowD u d) := by
  unfold impl_lowest.f
  rw [impl_gcd_ev k hk u d hu hd]
  simp only [Option.bind_some]
  have hg := gcd_pos u d h
  have hl := gcd_le_pt u d hu hd
  have e1 : wrap64 (-(Int.gcd u d : Int)) = -(Int.gcd u d : Int) := w64 (by omega)
  unfold lowU lowD sg
  rw [e1]
  simp only [tdiv_w _ _ hu, tdiv_w _ _ hd]
  by_cases h1 : d < 0
  · rw [if_pos h1, if_neg (by omega), if_pos (by omega)]
  · rw [if_neg h1]
    by_cases h2 : d = 0
    · rw [if_pos h2]
      by_cases h3 : u < 0
      · rw [if_pos h3, if_neg (by omega), if_pos (by omega)]
      · rw [if_neg h3, if_neg (by omega), if_neg (by omega)]
    · rw [if_neg h2, if_neg (by omega), if_neg (by omega)]
theorem impl_lowest_over (k : Nat) (hk : 1000002 ≤ k) {u d : Int} (h : Fr u d) : impl_lowest.f k (wrap64 (-d)) u = some (ovU u d, ovD u) := by
  rw [h.wn, impl_lowest_ev k hk _ _ h.pn h.pu h.ne, (low_over h).1, (low_over h).2]
theorem spec_LowestOf_ev (k : Nat) (hk : 1000003 ≤ k) (u d : Int) : spec_LowestOf.f k u d = some (if Pt u ∧ Pt d ∧ ¬(u = 0 ∧ d = 0) then (lowU u d, lowD u d, true) else (0, 0, false)) := by
  obtain ⟨k, rfl⟩ : ∃ m, k = m + 1 := ⟨k - 1, by omega⟩
  have jt : spec_LowestOf.j0 (k + 1) u d true = some (0, 0, false) := by simp only [spec_LowestOf.j0]; rw [if_pos trivial]
  have jf : Pt u → Pt d → ¬(u = 0 ∧ d = 0) → spec_LowestOf.j0 (k + 1) u d false = some (lowU u d, lowD u d, true) := by
    intro hu hd h
    simp only [spec_LowestOf.j0]
    rw [if_neg (by simp), spec_l1Common_ev k (by omega) u d hu hd]
    simp only [Option.bind_some]
    have hg := gcd_pos u d h
    have hl := gcd_le_pt u d hu hd
    have e1 : wrap64 (-(Int.gcd u d : Int)) = -(Int.gcd u d : Int) := w64 (by omega)
    unfold lowU lowD sg
    rw [e1]
    simp only [tdiv_w _ _ hu, tdiv_w _ _ hd]
    by_cases h1 : d < 0
    · rw [if_pos h1, if_neg (by omega), if_pos (by omega)]
    · rw [if_neg h1]
      by_cases h2 : d = 0
      · rw [if_pos h2]
        by_cases h3 : u < 0
        · rw [if_pos h3, if_neg (by omega), if_pos (by omega)]
        · rw [if_neg h3, if_neg (by omega), if_neg (by omega)]
      · rw [if_neg h2, if_neg (by omega), if_neg (by omega)]
  have pt : ∀ n : Int, (-1000000 ≤ n ∧ n ≤ 1000000) ↔ Pt n := fun n => Iff.rfl
  unfold spec_LowestOf.f
  simp only [spec_l1In_ev, Option.bind_some, decide_eq_true_eq, pt]
  by_cases hu : Pt u
  · rw [if_pos hu]
    by_cases hd : Pt d
    · rw [if_pos hd]
      by_cases h : u = 0 ∧ d = 0
      · rw [if_pos h.1, if_neg (fun x => x.2.2 h)]
        have : (d == 0) = true := by simpa using h.2
        rw [this]; exact jt
      · have hp : Pt u ∧ Pt d ∧ ¬(u = 0 ∧ d = 0) := ⟨hu, hd, h⟩
        rw [if_pos hp]
        by_cases h1 : u = 0
        · rw [if_pos h1]
          have : (d == 0) = false := by simpa using (by omega : ¬ d = 0)
          rw [this]; exact jf hu hd h
        · rw [if_neg h1]; exact jf hu hd h
    · rw [if_neg hd, if_neg (fun x => hd x.2.1)]; exact jt
  · rw [if_neg hu, if_neg (fun x => hu x.1)]; exact jt
theorem spec_OverOf_ev (k : Nat) (hk : 1000003 ≤ k) (u d : Int) : spec_OverOf.f k u d = some (if Fr u d then (ovU u d, ovD u) else (0, 0)) := by
  unfold spec_OverOf.f
  simp only [spec_FractionOk_ev k (by omega), Option.bind_some, decide_eq_true_eq]
  by_cases h : Fr u d
  · rw [if_pos h, if_pos h, h.wn, spec_LowestOf_ev k hk, if_pos ⟨h.pn, h.pu, h.ne⟩]
    simp only [Option.bind_some, (low_over h).1, (low_over h).2]
  · rw [if_neg h, if_neg h]
theorem spec_PlusOf_ev (k : Nat) (hk : 1000002 ≤ k) (u d n : Int) : spec_PlusOf.f k u d n = some (if Fr u d ∧ Pt n then pl u d n else (0, 0, false)) := by
  have pt : ∀ n : Int, (-1000000 ≤ n ∧ n ≤ 1000000) ↔ Pt n := fun n => Iff.rfl
  unfold spec_PlusOf.f
  simp only [spec_FractionOk_ev k hk, spec_l1In_ev, Option.bind_some, decide_eq_true_eq, pt]
  by_cases h : Fr u d
  · rw [if_pos h]
    by_cases hn : Pt n
    · have hp : Fr u d ∧ Pt n := ⟨h, hn⟩
      rw [if_pos hn, if_pos hp, wplus h.pu h.pd hn]
      unfold pl
      split <;> rfl
    · rw [if_neg hn, if_neg (fun x => hn x.2)]
  · rw [if_neg h, if_neg (fun x => h x.1)]
theorem impl_plus_ev (k : Nat) (hk : 1000002 ≤ k) (u d n : Int) (h : Fr u d) (hn : Pt n) : impl_plus.f k u d n = some (pl u d n) := by
  unfold impl_plus.f
  rw [wplus h.pu h.pd hn, impl_isFraction_ev k hk]
  unfold pl
  simp only [Option.bind_some, decide_eq_true_eq]
  split <;> rfl
def Bs (l : List Int) : Prop := l.length ≤ 2000 ∧ ∀ i, 0 ≤ rd l i ∧ rd l i ≤ 255
theorem xor_nn (a b : Int) (ha : 0 ≤ a ∧ a ≤ 4611686018427387903) (hb : 0 ≤ b ∧ b ≤ 4611686018427387903) : 0 ≤ Go.bits .xor .i64 a b := by
  obtain ⟨m, rfl⟩ : ∃ m : Nat, a = m := ⟨a.toNat, by omega⟩
  obtain ⟨n, rfl⟩ : ∃ m : Nat, b = m := ⟨b.toNat, by omega⟩
  have hm : m < 2 ^ 62 := by omega
  have hn : n < 2 ^ 62 := by omega
  have hx := Nat.xor_lt_two_pow hm hn
  have e1 : m % 2 ^ IntKind.i64.bits = m := Nat.mod_eq_of_lt (Nat.lt_trans hm (by decide))
  have e2 : n % 2 ^ IntKind.i64.bits = n := Nat.mod_eq_of_lt (Nat.lt_trans hn (by decide))
  simp only [Go.bits, BitVec.ofInt_natCast, BitVec.toNat_xor, BitVec.toNat_ofNat, e1, e2]
  have e3 := IntKind.wrap_i64 ((m ^^^ n : Nat) : Int)
  rw [e3]
  omega
theorem tmod_rng (a n : Int) (ha : 0 ≤ a) (hn : 1 ≤ n) : 0 ≤ Int.tmod a n ∧ Int.tmod a n < n := ⟨Int.tmod_nonneg n ha, Int.tmod_lt_of_pos a (by omega)⟩
theorem pick_ev (k : Nat) (hk : 1 ≤ k) (l : List Int) (hl : Bs l) (p n : Int) (hp : 0 ≤ p ∧ p ≤ 1000000) (hn : n ≤ 10000000) :
    ∃ r, spec_l20Rd_pick.f k l p n = some (r, p + 1) ∧ 0 ≤ r ∧ (1 ≤ n → r < n) ∧ (n < 1 → r = 0) := by
  obtain ⟨k, rfl⟩ : ∃ m, k = m + 1 := ⟨k - 1, by omega⟩
  unfold spec_l20Rd_pick.f
  have e0 : wrap64 (p + 1) = p + 1 := w64 (by omega)
  have e1 : wrap64 (p + 1 - 1) = p := by rw [w64 (by omega)]; omega
  rw [e0]
  by_cases h1 : n < 1
  · rw [if_pos h1]
    simp only [spec_l20Rd_pick.j0]
    rw [if_pos trivial]
    exact ⟨0, rfl, by omega, by omega, fun _ => rfl⟩
  · rw [if_neg h1]
    simp only [spec_l20Rd_pick.j0]
    by_cases h2 : (l.length : Int) = 0
    · rw [if_pos (by simpa using h2)]
      exact ⟨0, rfl, by omega, by omega, fun _ => rfl⟩
    · rw [if_neg (by simpa using h2), e1]
      have hn0 : ¬ n = 0 := by omega
      by_cases h3 : p < (l.length : Int)
      · rw [if_pos h3, if_pos hp.1, if_neg hn0]
        have hr := hl.2 p
        rw [w64 (by omega : -9223372036854775808 ≤ rd l p ∧ _)]
        have := tmod_rng (rd l p) n (by omega) (by omega)
        exact ⟨_, rfl, this.1, fun _ => this.2, by omega⟩
      · rw [if_neg h3, if_neg h2]
        have t1 := tmod_rng p (l.length : Int) hp.1 (by omega)
        have e7 : wrap64 (wrap64 (p * 7) + 3) = p * 7 + 3 := by rw [w64 (by omega : -9223372036854775808 ≤ p * 7 ∧ _), w64 (by omega)]
        rw [e7]
        have t2 := tmod_rng (p * 7 + 3) (l.length : Int) (by omega) (by omega)
        rw [if_pos t1.1, if_pos t1.2, if_pos t2.1, if_pos t2.2, if_neg hn0]
        have r1 := hl.2 (Int.tmod p (l.length : Int))
        have r2 := hl.2 (Int.tmod (p * 7 + 3) (l.length : Int))
        generalize rd l (Int.tmod p (l.length : Int)) = a at r1 ⊢
        generalize rd l (Int.tmod (p * 7 + 3) (l.length : Int)) = b at r2 ⊢
        have q0 := tdiv_le p (l.length : Int)
        have q1 : 0 ≤ Int.tdiv p (l.length : Int) := Int.tdiv_nonneg hp.1 (by omega)
        generalize Int.tdiv p (l.length : Int) = q at q0 q1 ⊢
        have e2 : wrap64 a = a := w64 (by omega)
        have e3 : wrap64 b = b := w64 (by omega)
        have e4 : wrap64 q = q := w64 (by omega)
        rw [e2, e3, e4]
        have e5 : wrap64 (a * 131) = a * 131 := w64 (by omega)
        have e6 : wrap64 (b * 1117) = b * 1117 := w64 (by omega)
        have e8 : wrap64 (q * 53) = q * 53 := w64 (by omega)
        have e9 : wrap64 (p * 29) = p * 29 := w64 (by omega)
        rw [e5, e6, e8, e9]
        have e10 : wrap64 (a * 131 + b * 1117) = a * 131 + b * 1117 := w64 (by omega)
        rw [e10]
        have e11 : wrap64 (a * 131 + b * 1117 + p * 29) = a * 131 + b * 1117 + p * 29 := w64 (by omega)
        rw [e11]
        have e12 : wrap64 (a * 131 + b * 1117 + p * 29 + q * 53) = a * 131 + b * 1117 + p * 29 + q * 53 := w64 (by omega)
        rw [e12]
        have hX : 0 ≤ a * 131 + b * 1117 + p * 29 + q * 53 ∧ a * 131 + b * 1117 + p * 29 + q * 53 ≤ 4611686018427387903 := by omega
        generalize a * 131 + b * 1117 + p * 29 + q * 53 = X at hX ⊢
        have q2 := tdiv_le X 64
        have q3 : 0 ≤ Int.tdiv X 64 := Int.tdiv_nonneg hX.1 (by omega)
        have e13 : wrap64 (Int.tdiv X 64) = Int.tdiv X 64 := w64 (by omega)
        rw [e13]
        have := tmod_rng _ n (xor_nn X (Int.tdiv X 64) hX (by omega)) (by omega)
        exact ⟨_, rfl, this.1, fun _ => this.2, by omega⟩
theorem odd_ev (k : Nat) (hk : 1 ≤ k) (l : List Int) (hl : Bs l) (p n : Int) (hp : 0 ≤ p ∧ p ≤ 1000000) (hn : n ≤ 10000000) :
    ∃ b p', spec_l20Rd_odd.f k l p n = some (b, p') ∧ p ≤ p' ∧ p' ≤ p + 1 := by
  unfold spec_l20Rd_odd.f
  by_cases h : n > 0
  · rw [if_pos h]
    obtain ⟨r, e, _⟩ := pick_ev k hk l hl p n hp hn
    rw [e]
    exact ⟨_, _, rfl, by omega, by omega⟩
  · rw [if_neg h]; exact ⟨_, _, rfl, by omega, by omega⟩
theorem open_ev (l : List Int) (hw : ∀ x ∈ l, (Lit.int .u8 x).wf = true) : ∃ m, spec_l20Open.f l = some (m, 0) ∧ Bs m := by
  have key : ∀ m : List Int, m.length ≤ 2000 → (∀ x ∈ m, x ∈ l) → Bs m := by
    intro m hm hs
    refine ⟨hm, fun i => ?_⟩
    unfold rd
    by_cases h : i.toNat < m.length
    · have : m.getD i.toNat 0 = m[i.toNat] := by simp [h]
      rw [this]
      have h1 := hw _ (hs _ (List.getElem_mem h))
      simp [Lit.wf, IntKind.min, IntKind.max, IntKind.signed, IntKind.bits] at h1
      omega
    · have : m.getD i.toNat 0 = 0 := by simp [Nat.le_of_not_lt h]
      rw [this]; omega
  unfold spec_l20Open.f
  by_cases h : (l.length : Int) > 2000
  · rw [if_pos h, if_pos (by omega)]
    exact ⟨_, rfl, key _ (by simp; omega) (fun x hx => List.mem_of_mem_take hx)⟩
  · rw [if_neg h]
    exact ⟨_, rfl, key _ (by omega) (fun x hx => hx)⟩
theorem alive_ev (k : Nat) (hk : 1000002 ≤ k) : laws_alive.f k = some true := by
  unfold laws_alive.f
  simp only [impl_FractionOk_ev k hk, Option.bind_some]
  decide
theorem spec_DanceOk_l0 (s : ByteArray) (hn : s.size ≤ 1000000000) (d : Nat) : ∀ (k : Nat) (i : Int), 0 ≤ i → i + d = s.size → d < k → spec_DanceOk.l0 k s i = some (decide (dok (s.data.toList.drop i.toNat) = true ∧ s.size ≤ 40)) := by
  have hsz : s.data.toList.length = s.size := by simp
  induction d with
  | zero =>
    intro k i h0 hd hk
    obtain ⟨k, rfl⟩ : ∃ m, k = m + 1 := ⟨k - 1, by omega⟩
    simp only [spec_DanceOk.l0]
    rw [if_neg (by omega), List.drop_eq_nil_of_le (by omega)]
    exact sd ⟨fun x => ⟨rfl, by omega⟩, fun x => by omega⟩
  | succ d ih =>
    intro k i h0 hd hk
    obtain ⟨k, rfl⟩ : ∃ m, k = m + 1 := ⟨k - 1, by omega⟩
    simp only [spec_DanceOk.l0]
    have h1 : i.toNat < s.size := by omega
    have h2 : i.toNat < s.data.toList.length := by omega
    rw [if_pos (by omega), if_pos h0, w64 (by omega), ih k (i + 1) (by omega) (by omega) (by omega)]
    have e : (i + 1).toNat = i.toNat + 1 := by omega
    rw [e, bt_get s i h0 h1, List.drop_eq_getElem_cons h2]
    generalize s.data.toList[i.toNat] = c
    have hm := mv_iff c
    have hc : dok (c :: List.drop (i.toNat + 1) s.data.toList) = (mv c && dok (List.drop (i.toNat + 1) s.data.toList)) := rfl
    rw [hc]
    by_cases c1 : (c.toNat : Int) = 84
    · rw [if_pos c1]; have : mv c = true := hm.2 (Or.inl c1); rw [this, Bool.true_and]
    · rw [if_neg c1]
      by_cases c2 : (c.toNat : Int) = 116
      · rw [if_pos c2]; have : mv c = true := hm.2 (Or.inr (Or.inl c2)); rw [this, Bool.true_and]
      · rw [if_neg c2]
        by_cases c3 : (c.toNat : Int) = 82
        · rw [if_pos c3]; have : mv c = true := hm.2 (Or.inr (Or.inr c3)); rw [this, Bool.true_and]
        · rw [if_neg c3]
          have : mv c = false := by
            rcases Bool.eq_false_or_eq_true (mv c) with h | h
            · have := hm.1 h; omega
            · exact h
          rw [this, Bool.false_and]
          exact sf (by simp)
theorem spec_DanceOk_ev (k : Nat) (s : ByteArray) (hk : s.size < k) (hn : s.size ≤ 1000000000) : spec_DanceOk.f k s = some (decide (Dn s)) := by
  unfold spec_DanceOk.f
  rw [spec_DanceOk_l0 s hn s.size k 0 (by omega) (by omega) hk]
  rfl
theorem rdOf_sz (L : List ByteArray) (h : ∀ x ∈ L, x.size ≤ 50) (r : Int) : (rdOf ByteArray.empty L r).size ≤ 50 := by
  unfold rdOf
  by_cases hr : r.toNat < L.length
  · have : L.getD r.toNat ByteArray.empty = L[r.toNat] := by simp [hr]
    rw [this]
    exact h _ (List.getElem_mem hr)
  · have : L.getD r.toNat ByteArray.empty = ByteArray.empty := by simp [Nat.le_of_not_lt hr]
    rw [this]
    decide
theorem dance_ev (k : Nat) (l : List Int) (hl : Bs l) (p a n : Int) (hk : a.toNat + 4 < k) (hp : 0 ≤ p ∧ p ≤ 900000) (ha : 0 ≤ a ∧ a ≤ 1000) (hn : n ≤ 10000000) :
    ∃ s p', spec_l20Dance.f k l p a n = some (s, p') ∧ p ≤ p' ∧ p' ≤ p + a + 5 ∧ s.size ≤ 50 * a.toNat + 50 := by
  have j : ∀ (d : Nat) (k : Nat) (s : ByteArray) (p : Int), d + 2 < k → 0 ≤ p → p + d ≤ 901010 → s.size + 50 * d ≤ 100000 → ∃ t p', spec_l20Dance.l0 k n s (d : Int) l p = some (t, p') ∧ p ≤ p' ∧ p' ≤ p + d + 2 ∧ t.size ≤ s.size + 50 * d + 50 := by
    intro d
    induction d with
    | zero =>
      intro k s p hk h0 h1 hs
      obtain ⟨k, rfl⟩ : ∃ m, k = m + 1 := ⟨k - 1, by omega⟩
      simp only [spec_l20Dance.l0]
      rw [if_neg (by omega)]
      obtain ⟨b, p', e, h2, h3⟩ := odd_ev k (by omega) l hl p n (by omega) hn
      rw [e]
      simp only [Option.bind_some]
      by_cases hb : b = true
      · rw [if_pos hb]
        obtain ⟨r, e2, h4, h5, _⟩ := pick_ev k (by omega) l hl p' 3 (by omega) (by omega)
        rw [e2]
        simp only [Option.bind_some]
        have h6 := h5 (by omega)
        rw [if_pos h4, if_pos (by simp only [List.length_cons, List.length_nil]; omega)]
        split
        · exact ⟨_, _, rfl, by omega, by omega, by rw [ByteArray.size_append]; exact Nat.le_trans (Nat.add_le_add_left (rdOf_sz _ (by decide) r) _) (by omega)⟩
        · rename_i hc
          exact absurd (Nat.le_trans (Nat.add_le_add_left (rdOf_sz _ (by decide) r) _) (by omega)) hc
      · rw [if_neg hb]
        exact ⟨_, _, rfl, by omega, by omega, by omega⟩
    | succ d ih =>
      intro k s p hk h0 h1 hs
      obtain ⟨k, rfl⟩ : ∃ m, k = m + 1 := ⟨k - 1, by omega⟩
      simp only [spec_l20Dance.l0]
      rw [if_pos (by omega)]
      simp only [Option.bind_some]
      obtain ⟨r, e2, h4, h5, _⟩ := pick_ev k (by omega) l hl p 6 (by omega) (by omega)
      rw [e2]
      simp only [Option.bind_some]
      have h6 := h5 (by omega)
      rw [if_pos h4, if_pos (by simp only [List.length_cons, List.length_nil]; omega), if_pos (Nat.le_trans (Nat.add_le_add_left (rdOf_sz _ (by decide) r) _) (by omega)), w64 (by omega)]
      have h7 := rdOf_sz [(⟨#[84]⟩ : ByteArray), (⟨#[84]⟩ : ByteArray), (⟨#[82]⟩ : ByteArray), (⟨#[116]⟩ : ByteArray), (⟨#[82]⟩ : ByteArray), (⟨#[84]⟩ : ByteArray)] (by decide) r
      have e3 : ((d + 1 : Nat) : Int) - 1 = (d : Int) := by omega
      rw [e3]
      obtain ⟨t, p', e4, h8, h9, h10⟩ := ih k (s ++ rdOf ByteArray.empty [(⟨#[84]⟩ : ByteArray), (⟨#[84]⟩ : ByteArray), (⟨#[82]⟩ : ByteArray), (⟨#[116]⟩ : ByteArray), (⟨#[82]⟩ : ByteArray), (⟨#[84]⟩ : ByteArray)] r) (p + 1) (by omega) (by omega) (by omega) (by rw [ByteArray.size_append]; omega)
      rw [ByteArray.size_append] at h10
      exact ⟨t, p', e4, by omega, by omega, by omega⟩
  unfold spec_l20Dance.f
  rw [w64 (by omega)]
  obtain ⟨r, e1, h1, h2, _⟩ := pick_ev k (by omega) l hl p (a + 1) (by omega) (by omega)
  rw [e1]
  simp only [Option.bind_some]
  have h3 := h2 (by omega)
  obtain ⟨d, rfl⟩ : ∃ d : Nat, r = d := ⟨r.toNat, by omega⟩
  obtain ⟨t, p', e4, h8, h9, h10⟩ := j d k (⟨#[]⟩ : ByteArray) (p + 1) (by omega) (by omega) (by omega) (by show 0 + 50 * d ≤ 100000; omega)
  have e0 : (⟨#[]⟩ : ByteArray).size = 0 := rfl
  rw [e0] at h10
  exact ⟨t, p', e4, by omega, by omega, by omega⟩
def ce (u d : Int) : Int := -((-u) / d)
theorem ce_spec {u d : Int} (hd : 0 < d) : 0 ≤ ce u d * d - u ∧ ce u d * d - u < d := by
  have h1 := Int.emod_nonneg (-u) (show d ≠ 0 by omega)
  have h2 := Int.emod_lt_of_pos (-u) hd
  have h3 := Int.mul_ediv_add_emod (-u) d
  unfold ce
  rw [Int.neg_mul, Int.mul_comm]
  omega
theorem ce_unique {u d c : Int} (hd : 0 < d) (h0 : 0 ≤ c * d - u) (h1 : c * d - u < d) : c = ce u d := by
  have h2 := ce_spec (u := u) hd
  rcases ltge c (ce u d) with h | h
  · have : (c + 1) * d ≤ ce u d * d := Int.mul_le_mul_of_nonneg_right (by omega) (by omega)
    rw [Int.add_mul, Int.one_mul] at this
    omega
  · by_cases e : c = ce u d
    · exact e
    · have : (ce u d + 1) * d ≤ c * d := Int.mul_le_mul_of_nonneg_right (by omega) (by omega)
      rw [Int.add_mul, Int.one_mul] at this
      omega
theorem tdiv_facts (u d : Int) (hd : 0 < d) : (0 ≤ u → 0 ≤ u - Int.tdiv u d * d ∧ u - Int.tdiv u d * d < d) ∧ (u < 0 → 0 ≤ Int.tdiv u d * d - u ∧ Int.tdiv u d * d - u < d) := by
  have h := Int.mul_tdiv_add_tmod u d
  rw [Int.mul_comm] at h
  constructor
  · intro hu
    have h1 := Int.tmod_nonneg d hu
    have h2 := Int.tmod_lt_of_pos u hd
    omega
  · intro hu
    have h1 := Int.tmod_nonneg d (show 0 ≤ -u by omega)
    have h2 := Int.tmod_lt_of_pos (-u) hd
    rw [Int.neg_tmod] at h1 h2
    omega
theorem ce_bd {u d n : Int} (hd : 0 < d) (h : -n ≤ u ∧ u ≤ n) (hn : 0 ≤ n) : -n ≤ ce u d ∧ ce u d ≤ n := by
  have h2 := ce_spec (u := u) hd
  constructor
  · rcases ltge (ce u d) (-n) with h' | h'
    · exfalso
      have t1 : ce u d * d ≤ (-n - 1) * d := Int.mul_le_mul_of_nonneg_right (by omega) (by omega)
      have t2 : (-n - 1) * d ≤ (-n - 1) * 1 := Int.mul_le_mul_of_nonpos_left (by omega) (by omega)
      omega
    · exact h'
  · rcases ltge n (ce u d) with h' | h'
    · exfalso
      have t1 : (n + 1) * d ≤ ce u d * d := Int.mul_le_mul_of_nonneg_right (by omega) (by omega)
      rw [Int.add_mul, Int.one_mul] at t1
      have t2 : n * 1 ≤ n * d := Int.mul_le_mul_of_nonneg_left (by omega) hn
      omega
    · exact h'
theorem spec_l4Over_ev (u d : Int) (hd : 0 < d) (hb : d ≤ 1000) (hu : -1000 ≤ u ∧ u ≤ 1000) : spec_l4Over.f u d = some (ce u d) := by
  unfold spec_l4Over.f spec_l3Under.f
  have b := tdiv_le (-u) d
  have f := tdiv_facts (-u) d hd
  have w0 : wrap64 (-u) = -u := w64 (by omega)
  rw [w0]
  have w1 : wrap64 (Int.tdiv (-u) d) = Int.tdiv (-u) d := w64 (by omega)
  have pm := mulb (a := Int.tdiv (-u) d) (b := d) (by unfold Pt; omega) (by unfold Pt; omega)
  have w2 : wrap64 (Int.tdiv (-u) d * d) = Int.tdiv (-u) d * d := w64 (by omega)
  rw [if_neg (by omega), w1, w2]
  by_cases h : Int.tdiv (-u) d * d > -u
  · rw [if_pos h, w64 (by omega)]
    simp only [Option.bind_some]
    rw [w64 (by omega)]
    congr 1
    refine ce_unique hd ?_ ?_ <;> rw [Int.neg_mul, Int.sub_mul, Int.one_mul]
    · have h' : -u < 0 := by
        rcases ltge (-u) 0 with x | x
        · exact x
        · have := f.1 x; omega
      have := f.2 h'
      omega
    · omega
  · rw [if_neg h]
    simp only [Option.bind_some]
    rw [w64 (by omega)]
    congr 1
    refine ce_unique hd ?_ ?_ <;> rw [Int.neg_mul]
    · omega
    · rcases ltge (-u) 0 with x | x
      · have := f.2 x; omega
      · have := f.1 x; omega
def teL : Nat → Int → Int → List Int
  | 0, _, _ => []
  | n + 1, u, d => if ce u d * d - u = 0 then [ce u d] else ce u d :: teL n d (ce u d * d - u)
theorem spec_l4Terms_l0 (n : Nat) : ∀ (k : Nat) (l : List Int) (u d : Int), n + 1 < k → 0 < d → d ≤ n → d ≤ 60 → -60 ≤ u → u ≤ 60 → l.length + n ≤ 1000 → spec_l4Terms.l0 k l u d = some (l ++ teL n u d) := by
  induction n with
  | zero => intro k l u d hk h0 h1; omega
  | succ n ih =>
    intro k l u d hk h0 h1 h2 h3 h4 h5
    obtain ⟨k, rfl⟩ : ∃ m, k = m + 1 := ⟨k - 1, by omega⟩
    simp only [spec_l4Terms.l0, teL]
    have hc := ce_spec (u := u) h0
    have hb := ce_bd (n := 60) h0 ⟨h3, h4⟩ (by omega)
    have pm := mulb (a := ce u d) (b := d) (by unfold Pt; omega) (by unfold Pt; omega)
    rw [if_pos h0, spec_l4Over_ev u d h0 (by omega) (by omega)]
    simp only [Option.bind_some]
    rw [if_pos (by omega), w64 (by omega : -9223372036854775808 ≤ ce u d * d ∧ _), w64 (by omega)]
    by_cases hz : ce u d * d - u = 0
    · rw [if_pos hz, hz]
      obtain ⟨k, rfl⟩ : ∃ m, k = m + 1 := ⟨k - 1, by omega⟩
      simp only [spec_l4Terms.l0]
      rw [if_neg (by omega)]
    · rw [if_neg hz, ih k _ _ _ (by omega) (by omega) (by omega) (by omega) (by omega) (by omega) (by simp; omega)]
      simp
theorem teL_len (n : Nat) : ∀ (u d : Int), 0 < d → d ≤ n → ((teL n u d).length : Int) ≤ d ∧ 1 ≤ (teL n u d).length := by
  induction n with
  | zero => intro u d h0 h1; omega
  | succ n ih =>
    intro u d h0 h1
    have hc := ce_spec (u := u) h0
    simp only [teL]
    by_cases hz : ce u d * d - u = 0
    · rw [if_pos hz]; simp; omega
    · rw [if_neg hz]
      have := ih d (ce u d * d - u) (by omega) (by omega)
      simp
      omega
theorem spec_BackOf_l0 (s : ByteArray) (hD : Dn s) (n : Nat) : ∀ (k : Nat) (l : List UInt8), 2 * n + 60 ≤ k → n ≤ s.size → l.length + n ≤ 1000 → spec_BackOf.l0 k s (ofL l) ((n : Int) - 1) = some (ofL (l ++ backL (s.data.toList.take n))) := by
  have hsz : s.data.toList.length = s.size := by simp
  have h40 := hD.2
  induction n with
  | zero =>
    intro k l hk hn hl
    obtain ⟨k, rfl⟩ : ∃ m, k = m + 2 := ⟨k - 2, by omega⟩
    simp only [spec_BackOf.l0, spec_BackOf.j1]
    rw [if_neg (by omega), if_neg (by simp)]
    simp [backL]
  | succ n ih =>
    intro k l hk hn hl
    obtain ⟨k, rfl⟩ : ∃ m, k = m + 2 := ⟨k - 2, by omega⟩
    simp only [spec_BackOf.l0]
    have e : ((n + 1 : Nat) : Int) - 1 = (n : Int) := by omega
    rw [e, if_pos (by omega), spec_DanceOk_ev (k + 1) s (by omega) (by omega), decide_eq_true hD]
    simp only [Option.bind_some, spec_BackOf.j1]
    have hn1 : n < s.data.toList.length := by omega
    have hb := bt_get s (n : Int) (by omega) (by omega)
    have hb' : bt s (n : Int) = (s.data.toList[n].toNat : Int) := hb
    have hs := ofL_size l
    rw [if_pos trivial, if_pos (by omega), if_pos (by omega), hb', w64 (by omega), backL_take _ _ hn1]
    generalize s.data.toList[n] = c
    have q1 := u8_eq c 84 (by omega)
    have q2 := u8_eq c 116 (by omega)
    have a1 : ofL l ++ (⟨#[116]⟩ : ByteArray) = ofL (l ++ [116]) := ofL_app l [116]
    have a2 : ofL l ++ (⟨#[84]⟩ : ByteArray) = ofL (l ++ [84]) := ofL_app l [84]
    have a3 : ofL l ++ (⟨#[82]⟩ : ByteArray) = ofL (l ++ [82]) := ofL_app l [82]
    have q1' : ((c.toNat : Int) = 84) ↔ c = 84 := q1
    have q2' : ((c.toNat : Int) = 116) ↔ c = 116 := q2
    by_cases c1 : (c.toNat : Int) = 84
    · have : bk c = 116 := by unfold bk; rw [if_pos (q1'.1 c1)]
      rw [if_pos c1, if_pos (by omega), a1, ih k _ (by omega) (by omega) (by simp; omega), this]
      simp
    · rw [if_neg c1]
      have m1 : ¬ c = 84 := fun x => c1 (q1'.2 x)
      by_cases c2 : (c.toNat : Int) = 116
      · have : bk c = 84 := by unfold bk; rw [if_neg m1, if_pos (q2'.1 c2)]
        rw [if_pos c2, if_pos (by omega), a2, ih k _ (by omega) (by omega) (by simp; omega), this]
        simp
      · have m2 : ¬ c = 116 := fun x => c2 (q2'.2 x)
        have : bk c = 82 := by unfold bk; rw [if_neg m1, if_neg m2]
        rw [if_neg c2, if_pos (by omega), a3, ih k _ (by omega) (by omega) (by simp; omega), this]
        simp
theorem spec_BackOf_ev (k : Nat) (s : ByteArray) (hk : s.size + 200 ≤ k) (hn : s.size ≤ 1000000000) : spec_BackOf.f k s = some (if Dn s then ofL (backL s.data.toList) else ofL []) := by
  unfold spec_BackOf.f
  have e0 : (⟨#[]⟩ : ByteArray) = ofL [] := rfl
  have hsz : s.data.toList.length = s.size := by simp
  rw [e0, w64 (by omega)]
  by_cases h : Dn s
  · rw [if_pos h, spec_BackOf_l0 s h s.size k [] (by have := h.2; omega) (by omega) (by have := h.2; simp; omega), List.take_of_length_le (by omega)]
    simp
  · rw [if_neg h]
    obtain ⟨k, rfl⟩ : ∃ m, k = m + 2 := ⟨k - 2, by omega⟩
    simp only [spec_BackOf.l0]
    by_cases h0 : (s.size : Int) - 1 ≥ 0
    · rw [if_pos h0, spec_DanceOk_ev (k + 1) s (by omega) (by omega), decide_eq_false h]
      simp only [Option.bind_some, spec_BackOf.j1]
      rw [if_neg (by simp)]
    · rw [if_neg h0]
      simp only [spec_BackOf.j1]
      rw [if_neg (by simp)]
def ovr (f : Int × Int) : Int × Int := (ovU f.1 f.2, ovD f.1)
def plusO (f : Int × Int) (n : Int) : Option (Int × Int) := if Fr (f.1 + n * f.2) f.2 then some (f.1 + n * f.2, f.2) else none
def mvO (f : Int × Int) (c : UInt8) : Option (Int × Int) := if c = 84 then plusO f 1 else if c = 116 then plusO f (-1) else some (ovr f)
def dnc : (Int × Int) → List UInt8 → Option (Int × Int)
  | f, [] => some f
  | f, c :: l => (mvO f c).bind fun g => dnc g l
theorem dnc_app (l m : List UInt8) : ∀ f, dnc f (l ++ m) = (dnc f l).bind fun g => dnc g m := by
  induction l with
  | nil => intro f; rfl
  | cons c l ih =>
    intro f
    show (mvO f c).bind (fun g => dnc g (l ++ m)) = ((mvO f c).bind fun g => dnc g l).bind fun g => dnc g m
    cases mvO f c with
    | none => rfl
    | some g => exact ih g
theorem plusO_fr {f g : Int × Int} {n : Int} (h : plusO f n = some g) : Fr g.1 g.2 ∧ g = (f.1 + n * f.2, f.2) := by
  unfold plusO at h
  split at h
  · have e := Option.some.inj h
    rw [← e]
    exact ⟨by assumption, rfl⟩
  · cases h
theorem mvO_fr {f g : Int × Int} {c : UInt8} (hf : Fr f.1 f.2) (h : mvO f c = some g) : Fr g.1 g.2 := by
  unfold mvO at h
  split at h
  · exact (plusO_fr h).1
  · split at h
    · exact (plusO_fr h).1
    · have e := Option.some.inj h
      rw [← e]
      exact hf.over
theorem mvO_T (f : Int × Int) : mvO f 84 = plusO f 1 := by unfold mvO; rw [if_pos rfl]
theorem mvO_t (f : Int × Int) : mvO f 116 = plusO f (-1) := by unfold mvO; rw [if_neg (by decide), if_pos rfl]
theorem dok_app (l m : List UInt8) : dok (l ++ m) = (dok l && dok m) := by unfold dok; rw [List.all_append]
def shS : List UInt8 → List UInt8 → List UInt8
  | st, [] => st.reverse
  | [], c :: l => shS [c] l
  | s :: st, c :: l => if s = bk c then shS st l else shS (c :: s :: st) l
theorem shS_len (l : List UInt8) : ∀ st : List UInt8, (shS st l).length ≤ st.length + l.length := by
  induction l with
  | nil => intro st; simp [shS]
  | cons c l ih =>
    intro st
    cases st with
    | nil => simp only [shS]; have := ih [c]; simp at this ⊢; omega
    | cons s st =>
      simp only [shS]
      split
      · have := ih st; simp; omega
      · have := ih (c :: s :: st); simp at this ⊢; omega
theorem data_ofL (s : ByteArray) : ofL s.data.toList = s := by apply ByteArray.ext; simp [ofL]
theorem bt_ofL (l : List UInt8) (i : Nat) (h : i < l.length) : bt (ofL l) (i : Int) = ((l[i]).toNat : Int) := by
  have e := bt_get (ofL l) (i : Int) (by omega) (by rw [ofL_size]; omega)
  rw [e]
  simp [ofL]
theorem ext_one (s : ByteArray) (i : Nat) (h : i < s.data.toList.length) : s.extract i (i + 1) = ofL [s.data.toList[i]] := by
  have hsz : s.data.toList.length = s.size := by simp
  apply ByteArray.ext
  simp [ofL]
  apply Array.ext
  · simp
    have e : s.data.size = s.size := rfl
    omega
  · intro j h1 h2
    simp at h2
    simp [h2]
theorem impl_areMoves_ev (s : ByteArray) (hn : s.size ≤ 1000000000) : impl_areMoves.f s = some (dok s.data.toList) := by
  unfold impl_areMoves.f; rw [if_pos (by omega)]; rfl
theorem impl_isDance_ev (s : ByteArray) : impl_isDance.f s = some (decide (Dn s)) := by
  unfold impl_isDance.f
  by_cases h : (s.size : Int) ≤ 40
  · rw [if_pos h, impl_areMoves_ev s (by omega)]
    show some (dok s.data.toList) = _
    congr 1
    by_cases hd : dok s.data.toList = true
    · rw [hd, decide_eq_true (show Dn s from ⟨hd, by omega⟩)]
    · rw [decide_eq_false (show ¬ Dn s from fun x => hd x.1)]; simpa using hd
  · rw [if_neg h, decide_eq_false (fun x => h (by have := x.2; omega))]
def numsL (l : List UInt8) : List Int := l.map fun c => (c.toNat : Int)
theorem numsL_len (l : List UInt8) : (numsL l).length = l.length := by simp [numsL]
theorem str_numsL (l : List UInt8) : strOfNums (numsL l) = ofL l := by
  unfold strOfNums numsL ofL
  congr 1
  have e : ((fun n : Int => UInt8.ofNat n.toNat) ∘ fun c : UInt8 => (c.toNat : Int)) = id := by funext c; simp
  rw [List.map_map, e, List.map_id]
theorem rd_numsL (l : List UInt8) (c : UInt8) : rd (numsL (l ++ [c])) (l.length : Int) = (c.toNat : Int) := by
  rw [rd_eq _ _ (by omega) (by rw [numsL_len]; simp)]
  simp [numsL]
theorem u8_inj (a b : UInt8) : ((a.toNat : Int) = (b.toNat : Int)) ↔ a = b := by
  rw [← UInt8.toNat_inj]; omega
theorem spec_ShortenedOf_l0 (s : ByteArray) (hD : Dn s) (d : Nat) : ∀ (k : Nat) (st : List UInt8) (i : Nat), 2 * d + 300 ≤ k → i + d = s.size → st.length ≤ i → spec_ShortenedOf.l0 k s (numsL st.reverse) (i : Int) = some (ofL (shS st (s.data.toList.drop i))) := by
  have hsz : s.data.toList.length = s.size := by simp
  have h40 := hD.2
  induction d with
  | zero =>
    intro k st i hk hd hl
    obtain ⟨k, rfl⟩ : ∃ m, k = m + 2 := ⟨k - 2, by omega⟩
    simp only [spec_ShortenedOf.l0, spec_ShortenedOf.j1]
    rw [if_neg (by omega), if_neg (by simp), str_numsL, List.drop_eq_nil_of_le (by omega), shS]
  | succ d ih =>
    intro k st i hk hd hl
    obtain ⟨k, rfl⟩ : ∃ m, k = m + 2 := ⟨k - 2, by omega⟩
    have hi : i < s.data.toList.length := by omega
    have hb' : bt s (i : Int) = (s.data.toList[i].toNat : Int) := bt_get s (i : Int) (by omega) (by omega)
    have hx := ext_one s i hi
    have hmc : mv s.data.toList[i] = true := List.all_eq_true.1 hD.1 _ (List.getElem_mem hi)
    have e1 : ((i : Int) + 1) = ((i + 1 : Nat) : Int) := by omega
    simp only [spec_ShortenedOf.l0]
    rw [if_pos (by omega), spec_DanceOk_ev (k + 1) s (by omega) (by omega), decide_eq_true hD]
    rw [Option.bind_some]
    rw [spec_ShortenedOf.j1]
    rw [if_pos rfl, if_pos (by omega), w64 (by omega), if_pos (by omega), if_pos (by omega), e1, Int.toNat_natCast, Int.toNat_natCast, hx, hb', List.drop_eq_getElem_cons hi]
    generalize s.data.toList[i] = c at hmc
    have hDc : Dn (ofL [c]) := ⟨by rw [ofL_data]; simp [dok, hmc], by rw [ofL_size]; simp⟩
    have hs1 : (ofL [c]).size = 1 := by rw [ofL_size]; rfl
    rw [spec_BackOf_ev k _ (by omega) (by omega), if_pos hDc, ofL_data]
    rw [Option.bind_some]
    have hbl : backL [c] = [bk c] := rfl
    have hbb : bt (ofL [bk c]) 0 = ((bk c).toNat : Int) := bt_ofL [bk c] 0 (by simp)
    have hap : ∀ l : List UInt8, numsL l ++ [(c.toNat : Int)] = numsL (l ++ [c]) := by intro l; simp [numsL]
    have hlen := numsL_len st.reverse
    simp only [List.length_reverse] at hlen
    rw [hbl, hbb, ofL_size, hlen]
    cases st with
    | nil =>
      rw [if_neg (by simp), if_pos (by omega), if_pos (by simp only [List.length_nil]; omega), hap, shS]
      exact ih k [c] (i + 1) (by omega) (by omega) (by simp)
    | cons t st =>
      have hl' : st.length + 1 ≤ i := by simpa using hl
      have er : (t :: st).reverse = st.reverse ++ [t] := by simp
      have el : (((t :: st).length : Nat) : Int) - 1 = (st.reverse.length : Int) := by simp
      have ec : ((t :: st).length : Int) = (st.reverse.length : Int) + 1 := by simp
      have ec' : (t :: st).length = st.length + 1 := rfl
      rw [ec, if_pos (by omega)]
      have e2 : ((st.reverse.length : Int) + 1 - 1) = (st.reverse.length : Int) := by omega
      have hr : st.reverse.length = st.length := by simp
      rw [e2, w64 (by omega), if_pos (by omega), if_pos (by omega), if_pos (by simp), er, rd_numsL]
      have hu := u8_inj t (bk c)
      by_cases h : t = bk c
      · rw [if_pos (hu.2 h), if_pos (by omega), Int.toNat_natCast]
        have et : (numsL (st.reverse ++ [t])).take st.reverse.length = numsL st.reverse := by simp [numsL]
        rw [et, ih k st (i + 1) (by omega) (by omega) (by omega)]
        simp only [shS]
        rw [if_pos h]
      · rw [if_neg (fun x => h (hu.1 x)), if_pos (by omega), if_pos (by rw [ec']; omega), hap]
        have e3 : st.reverse ++ [t] ++ [c] = (c :: t :: st).reverse := by simp
        rw [e3, ih k (c :: t :: st) (i + 1) (by omega) (by omega) (by simp; omega)]
        simp only [shS]
        rw [if_neg h]
theorem spec_ShortenedOf_ev (k : Nat) (s : ByteArray) (hk : s.size + 500 ≤ k) (hn : s.size ≤ 1000000000) : spec_ShortenedOf.f k s = some (if Dn s then ofL (shS [] s.data.toList) else ofL []) := by
  unfold spec_ShortenedOf.f
  by_cases h : Dn s
  · rw [if_pos h]
    have := spec_ShortenedOf_l0 s h s.size k [] 0 (by have := h.2; omega) (by omega) (by simp)
    exact this
  · rw [if_neg h]
    obtain ⟨k, rfl⟩ : ∃ m, k = m + 2 := ⟨k - 2, by omega⟩
    simp only [spec_ShortenedOf.l0]
    by_cases h0 : (0 : Int) < (s.size : Int)
    · rw [if_pos h0, spec_DanceOk_ev (k + 1) s (by omega) (by omega), decide_eq_false h]
      rw [Option.bind_some, spec_ShortenedOf.j1]
      rw [if_neg (by simp)]
      rfl
    · rw [if_neg h0]
      simp only [spec_ShortenedOf.j1]
      rw [if_neg (by simp)]
      rfl
def dR (o : Option (Int × Int)) : Int × Int × Bool := match o with | some f => (f.1, f.2, true) | none => (0, 0, false)
theorem pl_plusO (u d n : Int) : pl u d n = dR (plusO (u, d) n) := by
  unfold pl plusO
  by_cases h : Fr (u + n * d) d
  · rw [if_pos h, if_pos h]; rfl
  · rw [if_neg h, if_neg h]; rfl
theorem pt1 : Pt 1 ∧ Pt (-1) := by unfold Pt; omega
theorem mvO_84 (f : Int × Int) (c : UInt8) (h : (c.toNat : Int) = 84) : mvO f c = plusO f 1 := by rw [(u8_eq c 84 (by omega)).1 h]; exact mvO_T f
theorem mvO_116 (f : Int × Int) (c : UInt8) (h : (c.toNat : Int) = 116) : mvO f c = plusO f (-1) := by rw [(u8_eq c 116 (by omega)).1 h]; exact mvO_t f
theorem mvO_else (f : Int × Int) (c : UInt8) (h : ¬(c.toNat : Int) = 84) (h2 : ¬(c.toNat : Int) = 116) : mvO f c = some (ovr f) := by
  have g1 : ¬ c = 84 := fun x => h ((u8_eq c 84 (by omega)).2 x)
  have g2 : ¬ c = 116 := fun x => h2 ((u8_eq c 116 (by omega)).2 x)
  unfold mvO
  rw [if_neg g1, if_neg g2]
theorem impl_danced_l0 (s : ByteArray) (h40 : s.size ≤ 2000) (d : Nat) : ∀ (k : Nat) (i : Nat) (f : Int × Int), d + 1000010 ≤ k → i + d = s.size → Fr f.1 f.2 → impl_danced.l0 k s (s.size : Int) (i : Int) f.1 f.2 = some (dR (dnc f (s.data.toList.drop i))) := by
  have hsz : s.data.toList.length = s.size := by simp
  induction d with
  | zero =>
    intro k i f hk hd hf
    obtain ⟨k, rfl⟩ : ∃ m, k = m + 1 := ⟨k - 1, by omega⟩
    simp only [impl_danced.l0]
    rw [if_neg (by omega), List.drop_eq_nil_of_le (by omega)]; rfl
  | succ d ih =>
    intro k i f hk hd hf
    obtain ⟨k, rfl⟩ : ∃ m, k = m + 1 := ⟨k - 1, by omega⟩
    have hi : i < s.data.toList.length := by omega
    have hb' : bt s (i : Int) = (s.data.toList[i].toNat : Int) := bt_get s (i : Int) (by omega) (by omega)
    have e1 : ((i : Int) + 1) = ((i + 1 : Nat) : Int) := by omega
    simp only [impl_danced.l0]
    rw [if_pos (by omega), if_pos (by omega), if_pos (by omega), w64 (by omega), hb', e1, List.drop_eq_getElem_cons hi]
    generalize s.data.toList[i] = c
    show _ = some (dR ((mvO f c).bind fun g => dnc g (List.drop (i + 1) s.data.toList)))
    have tw : ∀ n : Int, Pt n → mvO f c = plusO f n → ((impl_plus.f k f.1 f.2 n).bind fun bt149 => (if bt149.2.2 = true then (impl_danced.l0 k s (s.size : Int) ((i + 1 : Nat) : Int) bt149.1 bt149.2.1) else (some (0, 0, false)))) = some (dR ((mvO f c).bind fun g => dnc g (List.drop (i + 1) s.data.toList))) := by
      intro n hn hm
      rw [impl_plus_ev k (by omega) f.1 f.2 n hf hn, pl_plusO, hm]
      cases hp : plusO (f.1, f.2) n with
      | none => rfl
      | some g => exact ih k (i + 1) g (by omega) (by omega) (plusO_fr hp).1
    by_cases c1 : (c.toNat : Int) = 84
    · rw [if_pos c1]; exact tw 1 pt1.1 (mvO_84 f c c1)
    · rw [if_neg c1]
      by_cases c2 : (c.toNat : Int) = 116
      · rw [if_pos c2]; exact tw (-1) pt1.2 (mvO_116 f c c2)
      · rw [if_neg c2, impl_lowest_over k (by omega) hf, mvO_else f c c1 c2]
        exact ih k (i + 1) (ovr f) (by omega) (by omega) hf.over
theorem impl_danced_ev (k : Nat) (hk : 1002100 ≤ k) (u d : Int) (s : ByteArray) (h40 : s.size ≤ 2000) (hf : Fr u d) : impl_danced.f k u d s = some (dR (dnc (u, d) s.data.toList)) :=
  impl_danced_l0 s h40 s.size k 0 (u, d) (by omega) (by omega) hf
theorem impl_DancedOf_ev (k : Nat) (hk : 1002100 ≤ k) (s : ByteArray) : impl_DancedOf.f k s = some (if Dn s then dR (dnc (0, 1) s.data.toList) else (0, 0, false)) := by
  unfold impl_DancedOf.f
  rw [impl_isDance_ev]
  simp only [Option.bind_some, decide_eq_true_eq]
  by_cases h : Dn s
  · rw [if_pos h, if_pos h, impl_danced_ev k hk 0 1 s (by have := h.2; omega) (by decide)]; rfl
  · rw [if_neg h, if_neg h]
theorem spec_l2Move_ev (k : Nat) (hk : 1000003 ≤ k) (f : Int × Int) (c : UInt8) (hf : Fr f.1 f.2) : spec_l2Move.f k f.1 f.2 (c.toNat : Int) = some (dR (mvO f c)) := by
  unfold spec_l2Move.f
  have tw : ∀ n : Int, Pt n → mvO f c = plusO f n → ((spec_PlusOf.f k f.1 f.2 n).bind fun x => some (x.1, x.2.1, x.2.2)) = some (dR (mvO f c)) := by
    intro n hn hm
    rw [spec_PlusOf_ev k (by omega), if_pos ⟨hf, hn⟩, pl_plusO, hm]; rfl
  by_cases c1 : (c.toNat : Int) = 84
  · rw [if_pos c1]; exact tw 1 pt1.1 (mvO_84 f c c1)
  · rw [if_neg c1]
    by_cases c2 : (c.toNat : Int) = 116
    · rw [if_pos c2]; exact tw (-1) pt1.2 (mvO_116 f c c2)
    · rw [if_neg c2, spec_OverOf_ev k hk, if_pos hf, mvO_else f c c1 c2, spec_FractionOk_ev k (by omega)]
      simp only [Option.bind_some, decide_eq_true hf]
      rfl
theorem spec_DancedFrom_l0 (s : ByteArray) (h40 : s.size ≤ 2000) (d : Nat) : ∀ (k : Nat) (i : Nat) (f : Int × Int), d + 1000010 ≤ k → i + d = s.size → Fr f.1 f.2 → spec_DancedFrom.l0 k s (i : Int) f.1 f.2 = some (dR (dnc f (s.data.toList.drop i))) := by
  have hsz : s.data.toList.length = s.size := by simp
  induction d with
  | zero =>
    intro k i f hk hd hf
    obtain ⟨k, rfl⟩ : ∃ m, k = m + 1 := ⟨k - 1, by omega⟩
    simp only [spec_DancedFrom.l0]
    rw [if_neg (by omega), List.drop_eq_nil_of_le (by omega)]; rfl
  | succ d ih =>
    intro k i f hk hd hf
    obtain ⟨k, rfl⟩ : ∃ m, k = m + 1 := ⟨k - 1, by omega⟩
    have hi : i < s.data.toList.length := by omega
    have hb' : bt s (i : Int) = (s.data.toList[i].toNat : Int) := bt_get s (i : Int) (by omega) (by omega)
    have e1 : ((i : Int) + 1) = ((i + 1 : Nat) : Int) := by omega
    simp only [spec_DancedFrom.l0]
    rw [if_pos (by omega), if_pos (by omega), w64 (by omega), hb', e1, List.drop_eq_getElem_cons hi]
    generalize s.data.toList[i] = c
    show _ = some (dR ((mvO f c).bind fun g => dnc g (List.drop (i + 1) s.data.toList)))
    rw [spec_l2Move_ev k (by omega) f c hf]
    simp only [Option.bind_some]
    cases hm : mvO f c with
    | none => rfl
    | some g => exact ih k (i + 1) g (by omega) (by omega) (mvO_fr hf hm)
theorem spec_DancedFrom_ev (k : Nat) (u d : Int) (s : ByteArray) (hk : s.size + 1000200 ≤ k) (hn : s.size ≤ 1000000000) : spec_DancedFrom.f k u d s = some (if Fr u d ∧ Dn s then dR (dnc (u, d) s.data.toList) else (0, 0, false)) := by
  unfold spec_DancedFrom.f
  obtain ⟨k, rfl⟩ : ∃ m, k = m + 1 := ⟨k - 1, by omega⟩
  rw [spec_FractionOk_ev (k + 1) (by omega)]
  simp only [Option.bind_some, spec_DancedFrom.j0]
  rw [spec_DanceOk_ev (k + 1) s (by omega) hn]
  simp only [Option.bind_some]
  by_cases h : Dn s
  · rw [decide_eq_true h, if_pos rfl]
    by_cases hf : Fr u d
    · rw [decide_eq_true hf, if_neg (by simp), if_pos ⟨hf, h⟩]
      have := h.2
      exact spec_DancedFrom_l0 s (by omega) s.size k 0 (u, d) (by omega) (by omega) hf
    · rw [decide_eq_false hf, if_pos (by simp), if_neg (fun x => hf x.1)]
  · have hn2 : ¬ (Fr u d ∧ Dn s) := fun x => h x.2
    rw [decide_eq_false h, if_neg hn2]
    simp
theorem spec_DancedOf_ev (k : Nat) (s : ByteArray) (hk : s.size + 1000200 ≤ k) (hn : s.size ≤ 1000000000) : spec_DancedOf.f k s = some (if Dn s then dR (dnc (0, 1) s.data.toList) else (0, 0, false)) := by
  unfold spec_DancedOf.f
  rw [spec_DancedFrom_ev k 0 1 s hk hn]
  have : Fr 0 1 := by decide
  by_cases h : Dn s
  · rw [if_pos h, if_pos ⟨this, h⟩]; rfl
  · rw [if_neg h, if_neg (fun x => h x.2)]; rfl
def same2 (a b : Int × Int × Bool) : Bool := a.2.2 && b.2.2 && (a.1 == b.1 && (a.2.1 == b.2.1))
def dO (s : ByteArray) : Int × Int × Bool := if Dn s then dR (dnc (0, 1) s.data.toList) else (0, 0, false)
theorem impl_SameOk_ev (k : Nat) (hk : 1002100 ≤ k) (s t : ByteArray) : impl_SameOk.f k s t = some (same2 (dO s) (dO t)) := by
  unfold impl_SameOk.f
  rw [impl_DancedOf_ev k hk, impl_DancedOf_ev k hk]
  show (if (dO s).2.2 = true then (if (dO t).2.2 = true then (some ((dO s).1 == (dO t).1 && ((dO s).2.1 == (dO t).2.1))) else (some false)) else (some false)) = _
  unfold same2
  cases (dO s).2.2 <;> cases (dO t).2.2 <;> simp
theorem spec_SameOk_ev (k : Nat) (s t : ByteArray) (hk : s.size + 1000200 ≤ k) (hk2 : t.size + 1000200 ≤ k) (hs : s.size ≤ 1000000000) (ht : t.size ≤ 1000000000) : spec_SameOk.f k s t = some (same2 (dO s) (dO t)) := by
  unfold spec_SameOk.f
  rw [spec_DancedOf_ev k s hk hs, spec_DancedOf_ev k t hk2 ht]
  show (if (dO s).2.2 = true then (if (dO t).2.2 = true then (some ((dO s).1 == (dO t).1 && ((dO s).2.1 == (dO t).2.1))) else (some false)) else (some false)) = _
  unfold same2
  cases (dO s).2.2 <;> cases (dO t).2.2 <;> simp
def twL (a : Int) : List UInt8 := List.replicate a.toNat 84 ++ List.replicate (-a).toNat 116
theorem twL_len (a n : Int) (h : -n ≤ a ∧ a ≤ n) : ((twL a).length : Int) ≤ n := by
  unfold twL; simp; omega
def dfA : Nat → List Int → List UInt8
  | 0, _ => []
  | n + 1, l => twL (rd l (n : Int)) ++ ((if 0 < n then [82] else []) ++ dfA n l)
theorem rep_snoc (n : Nat) (c : UInt8) (m : List UInt8) : m ++ [c] ++ List.replicate n c = m ++ List.replicate (n + 1) c := by
  rw [List.replicate_succ]; simp
theorem teL_bd (n : Nat) : ∀ (u d : Int), 0 < d → d ≤ n → n ≤ 60 → -60 ≤ u → u ≤ 60 → ∀ x ∈ teL n u d, -60 ≤ x ∧ x ≤ 60 := by
  induction n with
  | zero => intro u d h0 h1; omega
  | succ n ih =>
    intro u d h0 h1 h2 h3 h4 x hx
    have hc := ce_spec (u := u) h0
    have hb := ce_bd (n := 60) h0 ⟨h3, h4⟩ (by omega)
    simp only [teL] at hx
    split at hx
    · simp at hx; omega
    · rcases List.mem_cons.1 hx with h | h
      · rw [h]; exact hb
      · exact ih d (ce u d * d - u) (by omega) (by omega) (by omega) (by omega) (by omega) x h
theorem rd_bd (l : List Int) (n : Int) (h : ∀ x ∈ l, -n ≤ x ∧ x ≤ n) (i : Nat) (hi : i < l.length) : -n ≤ rd l (i : Int) ∧ rd l (i : Int) ≤ n := by
  rw [rd_eq l (i : Int) (by omega) (by omega)]
  exact h _ (List.getElem_mem _)
theorem spec_l4Twists_l1 (a : Int) (ha : -1000 ≤ a ∧ a ≤ 1000) (n : Nat) : ∀ (k : Nat) (l : List UInt8) (j : Int), n < k → 0 ≤ j → (-a - j).toNat = n → l.length + n ≤ 5000000 → spec_l4Twists.l1 k a (ofL l) j = some (ofL (l ++ List.replicate n 116)) := by
  induction n with
  | zero =>
    intro k l j hk h0 hn hl
    obtain ⟨k, rfl⟩ : ∃ m, k = m + 1 := ⟨k - 1, by omega⟩
    simp only [spec_l4Twists.l1]
    rw [w64 (by omega), if_neg (by omega)]
    simp
  | succ n ih =>
    intro k l j hk h0 hn hl
    obtain ⟨k, rfl⟩ : ∃ m, k = m + 1 := ⟨k - 1, by omega⟩
    simp only [spec_l4Twists.l1]
    have e : ofL l ++ (⟨#[116]⟩ : ByteArray) = ofL (l ++ [116]) := ofL_app l [116]
    rw [w64 (by omega), if_pos (by omega), if_pos (by rw [ofL_size]; omega), w64 (by omega), e, ih k _ (j + 1) (by omega) (by omega) (by omega) (by simp; omega), rep_snoc]
theorem spec_l4Twists_l0 (a : Int) (ha : -1000 ≤ a ∧ a ≤ 1000) (n : Nat) : ∀ (k : Nat) (l : List UInt8) (j : Int), n + 1002 < k → 0 ≤ j → (a - j).toNat = n → l.length + n ≤ 4000000 → spec_l4Twists.l0 k a (ofL l) j = some (ofL (l ++ (List.replicate n 84 ++ List.replicate (-a).toNat 116))) := by
  induction n with
  | zero =>
    intro k l j hk h0 hn hl
    obtain ⟨k, rfl⟩ : ∃ m, k = m + 1 := ⟨k - 1, by omega⟩
    simp only [spec_l4Twists.l0]
    rw [if_neg (by omega), spec_l4Twists_l1 a ha (-a).toNat k l 0 (by omega) (by omega) (by omega) (by omega)]
    simp
  | succ n ih =>
    intro k l j hk h0 hn hl
    obtain ⟨k, rfl⟩ : ∃ m, k = m + 1 := ⟨k - 1, by omega⟩
    simp only [spec_l4Twists.l0]
    have e : ofL l ++ (⟨#[84]⟩ : ByteArray) = ofL (l ++ [84]) := ofL_app l [84]
    rw [if_pos (by omega), if_pos (by rw [ofL_size]; omega), w64 (by omega), e, ih k _ (j + 1) (by omega) (by omega) (by omega) (by simp; omega), ← List.append_assoc, ← List.append_assoc, rep_snoc]
theorem spec_l4Twists_ev (k : Nat) (hk : 2100 ≤ k) (a : Int) (ha : -1000 ≤ a ∧ a ≤ 1000) : spec_l4Twists.f k a = some (ofL (twL a)) := by
  unfold spec_l4Twists.f
  have := spec_l4Twists_l0 a ha a.toNat k [] 0 (by omega) (by omega) (by omega) (by simp; omega)
  exact this
theorem dfA_len (n : Nat) (l : List Int) (hl : ∀ x ∈ l, -60 ≤ x ∧ x ≤ 60) (hn : n ≤ l.length) : (dfA n l).length ≤ 61 * n := by
  induction n with
  | zero => simp [dfA]
  | succ n ih =>
    have h1 := twL_len (rd l (n : Int)) 60 (rd_bd l 60 hl n (by omega))
    have h2 := ih (by omega)
    have h3 : (if 0 < n then ([82] : List UInt8) else []).length ≤ 1 := by split <;> simp
    simp only [dfA, List.length_append]
    omega
theorem spec_l4Dance_l0 (l : List Int) (hl : ∀ x ∈ l, -60 ≤ x ∧ x ≤ 60) (n : Nat) : ∀ (k : Nat) (m : List UInt8), n + 2100 ≤ k → n ≤ l.length → n ≤ 1000 → m.length + 61 * n ≤ 1000000 → spec_l4Dance.l0 k l (ofL m) ((n : Int) - 1) = some (ofL (m ++ dfA n l)) := by
  induction n with
  | zero =>
    intro k m hk hn hn2 hm
    obtain ⟨k, rfl⟩ : ∃ j, k = j + 1 := ⟨k - 1, by omega⟩
    simp only [spec_l4Dance.l0]
    rw [if_neg (by omega)]
    simp [dfA]
  | succ n ih =>
    intro k m hk hn hn2 hm
    obtain ⟨k, rfl⟩ : ∃ j, k = j + 1 := ⟨k - 1, by omega⟩
    simp only [spec_l4Dance.l0]
    have e : ((n + 1 : Nat) : Int) - 1 = (n : Int) := by omega
    have hb := rd_bd l 60 hl n (by omega)
    have h1 := twL_len (rd l (n : Int)) 60 hb
    rw [e, if_pos (by omega), if_pos (by omega), if_pos (by omega), spec_l4Twists_ev k (by omega) _ (by omega), w64 (by omega)]
    rw [Option.bind_some, ofL_app, if_pos (by rw [ofL_size, ofL_size]; omega)]
    have eR : (⟨#[82]⟩ : ByteArray) = ofL [82] := rfl
    by_cases h0 : (n : Int) > 0
    · rw [if_pos h0, eR, ofL_app, if_pos (by rw [ofL_size, List.length_append]; omega), ih k _ (by omega) (by omega) (by omega) (by simp; omega)]
      simp only [dfA]
      rw [if_pos (by omega)]
      simp
    · rw [if_neg h0, ih k _ (by omega) (by omega) (by omega) (by simp; omega)]
      simp only [dfA]
      rw [if_neg (by omega)]
      simp
def dfL (u d : Int) : List UInt8 := if d = 0 then [82] else dfA (teL 60 u d).length (teL 60 u d)
theorem spec_l4Dance_ev (k : Nat) (hk : 3000 ≤ k) (u d : Int) (h0 : 0 ≤ d) (h2 : d ≤ 60) (h3 : -60 ≤ u ∧ u ≤ 60) : spec_l4Dance.f k u d = some (ofL (dfL u d)) := by
  unfold spec_l4Dance.f dfL
  by_cases hd : d = 0
  · rw [if_pos hd, if_pos hd]; rfl
  · rw [if_neg hd, if_neg hd]
    unfold spec_l4Terms.f
    rw [spec_l4Terms_l0 60 k [] u d (by omega) (by omega) (by omega) h2 h3.1 h3.2 (by simp), Option.bind_some]
    have hlen := (teL_len 60 u d (by omega) (by omega)).1
    have hbd := teL_bd 60 u d (by omega) (by omega) (by omega) h3.1 h3.2
    rw [List.nil_append, w64 (by omega)]
    exact spec_l4Dance_l0 (teL 60 u d) hbd (teL 60 u d).length k [] (by omega) (by omega) (by omega) (by simp; omega)
theorem dfL_len (u d : Int) (h0 : 0 ≤ d) (h2 : d ≤ 60) (h3 : -60 ≤ u ∧ u ≤ 60) : (dfL u d).length ≤ 4000 := by
  unfold dfL
  by_cases hd : d = 0
  · rw [if_pos hd]; simp
  · rw [if_neg hd]
    have hlen := (teL_len 60 u d (by omega) (by omega)).1
    have hbd := teL_bd 60 u d (by omega) (by omega) (by omega) h3.1 h3.2
    have := dfA_len (teL 60 u d).length (teL 60 u d) hbd (by omega)
    omega
theorem spec_DanceFor_ev (k : Nat) (hk : 1000100 ≤ k) (u d : Int) : spec_DanceFor.f k u d = some (if Fr u d ∧ -12 ≤ u ∧ u ≤ 12 ∧ d ≤ 12 then (ofL (dfL u d), true) else (ofL [], false)) := by
  unfold spec_DanceFor.f
  rw [spec_FractionOk_ev k (by omega), spec_l1In_ev]
  have e0 : (⟨#[]⟩ : ByteArray) = ofL [] := rfl
  rw [e0]
  simp only [Option.bind_some, decide_eq_true_eq]
  by_cases h1 : Fr u d
  · rw [if_pos h1]
    have hd := h1.2.2.1
    by_cases h2 : -12 ≤ u ∧ u ≤ 12
    · rw [if_pos h2]
      by_cases h3 : d > 12
      · rw [if_pos h3, if_neg (by intro x; have := x.2.2.2; omega)]
      · have hy : Fr u d ∧ -12 ≤ u ∧ u ≤ 12 ∧ d ≤ 12 := ⟨h1, h2.1, h2.2, by omega⟩
        rw [if_neg h3, spec_l4Dance_ev k (by omega) u d hd (by omega) (by omega), Option.bind_some, if_pos hy]
    · rw [if_neg h2, if_neg (fun x => h2 ⟨x.2.1, x.2.2.1⟩)]
  · rw [if_neg h1, if_neg (fun x => h1 x.1)]
theorem drawSame_ev (l0 : List Int) (hw : ∀ x ∈ l0, (Lit.int .u8 x).wf = true) : ∃ s t, spec_DrawSameOk.f 3000000 l0 = some (s, t) ∧ s.size ≤ 10000 ∧ t.size ≤ 20000 := by
  unfold spec_DrawSameOk.f
  obtain ⟨m, e, hm⟩ := open_ev l0 hw
  rw [e, Option.bind_some]
  obtain ⟨s, p', e2, q1, q2, hs⟩ := dance_ev 3000000 m hm 0 14 14 (by decide) (by omega) (by omega) (by omega)
  have hs' : s.size ≤ 750 := by have : (14 : Int).toNat = 14 := rfl; omega
  rw [e2, Option.bind_some]
  dsimp only
  obtain ⟨r, e3, q⟩ := pick_ev 3000000 (by omega) m hm p' 4 (by omega) (by omega)
  have hp' : p' ≤ 100 := by omega
  obtain ⟨t, p2, e4, _, _, ht⟩ := dance_ev 3000000 m hm (p' + 1) 6 14 (by decide) (by omega) (by omega) (by omega)
  have ht' : t.size ≤ 400 := by have : (6 : Int).toNat = 6 := rfl; omega
  rw [e3, Option.bind_some]
  dsimp only
  by_cases h0 : r = 0
  · rw [if_pos h0, spec_ShortenedOf_ev _ s (by omega) (by omega), Option.bind_some]
    refine ⟨_, _, rfl, (show s.size ≤ 10000 by omega), ?_⟩
    split
    · have := shS_len s.data.toList []
      have hsz : s.data.toList.length = s.size := by simp
      rw [ofL_size]
      simp only [List.length_nil] at this
      omega
    · rw [ofL_size]; simp
  · rw [if_neg h0]
    by_cases h1 : r = 1
    · rw [if_pos h1, if_pos (by omega)]
      refine ⟨_, _, rfl, (show s.size ≤ 10000 by omega), ?_⟩
      rw [ByteArray.size_append]
      have : (⟨#[84, 82, 84, 82, 84, 82]⟩ : ByteArray).size = 6 := rfl
      omega
    · rw [if_neg h1]
      by_cases h2 : r = 2
      · rw [if_pos h2, spec_DancedOf_ev _ s (by omega) (by omega), Option.bind_some, spec_DanceFor_ev _ (by omega), Option.bind_some]
        generalize (if Dn s then dR (dnc (0, 1) s.data.toList) else (0, 0, false)) = f
        by_cases hf : f.2.2 = true
        · rw [if_pos hf]
          by_cases hy : Fr f.1 f.2.1 ∧ -12 ≤ f.1 ∧ f.1 ≤ 12 ∧ f.2.1 ≤ 12
          · have hok : (ofL (dfL f.1 f.2.1), true).2 = true := rfl
            rw [if_pos hy, if_pos hok]
            have := dfL_len f.1 f.2.1 hy.1.2.2.1 (by omega) (by omega)
            exact ⟨_, _, rfl, (show s.size ≤ 10000 by omega), by rw [ofL_size]; omega⟩
          · have hno : ¬(ofL [], false).2 = true := by simp
            rw [if_neg hy, if_neg hno, e4, Option.bind_some]
            exact ⟨_, _, rfl, (show s.size ≤ 10000 by omega), by show t.size ≤ 20000; omega⟩
        · rw [if_neg hf, e4, Option.bind_some]
          exact ⟨_, _, rfl, (show s.size ≤ 10000 by omega), by show t.size ≤ 20000; omega⟩
      · rw [if_neg h2, e4, Option.bind_some]
        exact ⟨_, _, rfl, (show s.size ≤ 10000 by omega), by show t.size ≤ 20000; omega⟩
theorem same2_comm (a b : Int × Int × Bool) : same2 a b = same2 b a := by
  have h1 : (a.1 == b.1) = (b.1 == a.1) := Bool.eq_iff_iff.2 (by simp only [beq_iff_eq]; omega)
  have h2 : (a.2.1 == b.2.1) = (b.2.1 == a.2.1) := Bool.eq_iff_iff.2 (by simp only [beq_iff_eq]; omega)
  unfold same2
  rw [h1, h2, Bool.and_comm a.2.2]
theorem dO_T (s : ByteArray) (h : (dO (s ++ (⟨#[84]⟩ : ByteArray))).2.2 = true) : (dO s).2.2 = true ∧ dO (s ++ (⟨#[84]⟩ : ByteArray)) = ((dO s).1 + (dO s).2.1, (dO s).2.1, true) := by
  have eT : s ++ (⟨#[84]⟩ : ByteArray) = ofL (s.data.toList ++ [84]) := by
    rw [← ofL_app, data_ofL]; rfl
  have hsz : s.data.toList.length = s.size := by simp
  rw [eT] at h ⊢
  unfold dO at h ⊢
  by_cases hD : Dn (ofL (s.data.toList ++ [84]))
  · rw [if_pos hD] at h ⊢
    have hDs : Dn s := by
      have h1 := hD.1
      have h2 := hD.2
      rw [ofL_data, dok_app] at h1
      rw [ofL_size, List.length_append, hsz] at h2
      have : dok s.data.toList = true := by
        cases hx : dok s.data.toList with
        | true => rfl
        | false => rw [hx] at h1; cases h1
      exact ⟨this, by omega⟩
    rw [if_pos hDs]
    rw [ofL_data, dnc_app] at h ⊢
    cases hg : dnc (0, 1) s.data.toList with
    | none => rw [hg] at h; cases h
    | some g =>
      rw [hg] at h
      rw [Option.bind_some] at h ⊢
      have e : dnc g [84] = (mvO g 84).bind fun x => some x := rfl
      rw [e, mvO_T] at h ⊢
      unfold plusO at h ⊢
      by_cases hc : Fr (g.1 + 1 * g.2) g.2
      · rw [if_pos hc]
        refine ⟨rfl, ?_⟩
        show (g.1 + 1 * g.2, g.2, true) = (g.1 + g.2, g.2, true)
        rw [Int.one_mul]
      · rw [if_neg hc] at h; cases h
  · rw [if_neg hD] at h; cases h
theorem same2_T (a b : Int × Int × Bool) (ha : a.2.2 = true) (hb : b.2.2 = true) : same2 (a.1 + a.2.1, a.2.1, true) (b.1 + b.2.1, b.2.1, true) = same2 a b := by
  unfold same2
  rw [ha, hb]
  simp only [Bool.true_and]
  apply Bool.eq_iff_iff.2
  simp only [Bool.and_eq_true, beq_iff_eq]
  omega
theorem FnSameOk (l0 : List Int) (hw : ∀ x ∈ l0, (Lit.int .u8 x).wf = true) : ∃ k, laws_FnSameOk.f k l0 = some true := by
  refine ⟨3000000, ?_⟩
  unfold laws_FnSameOk.f
  by_cases h : (l0.length : Int) > 1048576
  · rw [if_pos h]
  · rw [if_neg h]
    obtain ⟨s, t, e, hs, ht⟩ := drawSame_ev l0 hw
    rw [e, Option.bind_some, impl_SameOk_ev _ (by omega), Option.bind_some, spec_SameOk_ev _ s t (by omega) (by omega) (by omega) (by omega), Option.bind_some]
    rw [if_neg (by simp), if_pos (by show s.size + 1 ≤ _; omega), impl_DancedOf_ev _ (by omega), Option.bind_some, if_pos (by show t.size + 1 ≤ _; omega), impl_DancedOf_ev _ (by omega), Option.bind_some, impl_DancedOf_ev _ (by omega), Option.bind_some, impl_SameOk_ev _ (by omega), Option.bind_some]
    have i1 := impl_SameOk_ev 3000000 (by omega) (s ++ (⟨#[84]⟩ : ByteArray)) (t ++ (⟨#[84]⟩ : ByteArray))
    have i2 := impl_SameOk_ev 3000000 (by omega) s s
    have d1 : (if Dn (s ++ (⟨#[84]⟩ : ByteArray)) then dR (dnc (0, 1) (s ++ (⟨#[84]⟩ : ByteArray)).data.toList) else (0, 0, false)) = dO (s ++ (⟨#[84]⟩ : ByteArray)) := rfl
    have d2 : (if Dn (t ++ (⟨#[84]⟩ : ByteArray)) then dR (dnc (0, 1) (t ++ (⟨#[84]⟩ : ByteArray)).data.toList) else (0, 0, false)) = dO (t ++ (⟨#[84]⟩ : ByteArray)) := rfl
    have d3 : (if Dn s then dR (dnc (0, 1) s.data.toList) else (0, 0, false)) = dO s := rfl
    simp only [d1, d2, d3, i1, i2, alive_ev 3000000 (by omega), Option.bind_some]
    rw [same2_comm (dO t) (dO s), if_pos (by simp)]
    have fin : (if (dO s).2.2 = true then (if same2 (dO s) (dO s) = true then some true else some false) else some true) = some true := by
      split
      · rename_i hk
        rw [if_pos (by unfold same2; rw [hk]; simp)]
      · rfl
    by_cases c1 : (dO (s ++ (⟨#[84]⟩ : ByteArray))).2.2 = true
    · rw [if_pos c1]
      by_cases c2 : (dO (t ++ (⟨#[84]⟩ : ByteArray))).2.2 = true
      · rw [if_pos c2]
        obtain ⟨a1, a2⟩ := dO_T s c1
        obtain ⟨b1, b2⟩ := dO_T t c2
        rw [a2, b2, same2_T (dO s) (dO t) a1 b1, if_pos (by simp)]
        exact fin
      · rw [if_neg c2]
        exact fin
    · rw [if_neg c1]
      exact fin
end Go.Proofs.YtcahmfhlmclgkaaDoor.Pure
