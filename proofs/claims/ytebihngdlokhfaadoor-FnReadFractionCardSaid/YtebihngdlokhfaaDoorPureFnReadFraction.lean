/- What the walked law FnReadFraction computes, answers true. -/
import Derived.Test.YtebihngdlokhfaaDoorPFnReadFractionx7
import Derived.OpenShut
import Derived.Lib.ItoaLen
import Derived.Lib.IndexBytes
import Derived.Lib.AtoiAll
namespace Go.Proofs.YtebihngdlokhfaaDoor.Pure
open Go.RowKit Go.Proofs.YtebihngdlokhfaaDoor.PFnReadFraction Go.Proofs.YtebihngdlokhfaaDoorW.PrintWords Go.Proofs.YtebihngdlokhfaaDoorW.PrintLast Go.Proofs.YtebihngdlokhfaaDoorW.PrintMore
set_option linter.unusedVariables false
set_option linter.unusedSimpArgs false
theorem st {P : Prop} [Decidable P] (h : P) : some true = some (decide P) := by simp [h]
theorem sf {P : Prop} [Decidable P] (h : ¬P) : some false = some (decide P) := by simp [h]
theorem sd {P Q : Prop} [Decidable P] [Decidable Q] (h : P ↔ Q) : some (decide P) = some (decide Q) := by simp [h]
theorem w64 {n : Int} (h : -9223372036854775808 ≤ n ∧ n ≤ 9223372036854775807) : wrap64 n = n := by unfold wrap64; omega
def Fr (u d : Int) : Prop := -1000000 ≤ u ∧ u ≤ 1000000 ∧ 0 ≤ d ∧ d ≤ 1000000 ∧ (d = 0 → u = 1) ∧ (Int.gcd u d = 1)
instance (u d : Int) : Decidable (Fr u d) := by unfold Fr; exact inferInstance
def Pt (n : Int) : Prop := -1000000 ≤ n ∧ n ≤ 1000000
instance (n : Int) : Decidable (Pt n) := by unfold Pt; exact inferInstance
theorem gcd_step (a b : Int) : Int.gcd b (Int.tmod a b) = Int.gcd a b := by
  unfold Int.gcd
  rw [Int.natAbs_tmod, Nat.gcd_comm a.natAbs b.natAbs, Nat.gcd_rec b.natAbs a.natAbs, Nat.gcd_comm]
theorem tmod_lt (a b : Int) (h : b ≠ 0) : (Int.tmod a b).natAbs < b.natAbs := by
  rw [Int.natAbs_tmod]
  exact Nat.mod_lt _ (by omega)
theorem tdiv_le (a b : Int) : (Int.tdiv a b).natAbs ≤ a.natAbs := by
  rw [Int.natAbs_tdiv]
  exact Nat.div_le_self _ _
theorem tdiv_w (a b : Int) (h : -1000000 ≤ a ∧ a ≤ 1000000) : wrap64 (Int.tdiv a b) = Int.tdiv a b := by
  have := tdiv_le a b
  exact w64 (by omega)
theorem gcd_le_pt (a b : Int) (ha : Pt a) (hb : Pt b) : (Int.gcd a b : Int) ≤ 1000000 := by
  unfold Pt at ha hb
  by_cases h : a = 0
  · subst h
    rw [Int.zero_gcd]
    omega
  · have := Int.gcd_le_natAbs_left b h
    omega
theorem gcd_pos (a b : Int) (h : ¬(a = 0 ∧ b = 0)) : 0 < Int.gcd a b := by
  rcases Nat.eq_zero_or_pos (Int.gcd a b) with h' | h'
  · exact absurd (Int.gcd_eq_zero_iff.mp h') h
  · exact h'
def sg (u d : Int) : Int := if d < 0 ∨ (d = 0 ∧ u < 0) then -(Int.gcd u d : Int) else (Int.gcd u d : Int)
def lowU (u d : Int) : Int := Int.tdiv u (sg u d)
def lowD (u d : Int) : Int := Int.tdiv d (sg u d)
def t2 (n : Int) : Bool := decide (2 ≤ n ∧ n ≤ 60)
def ofL (l : List UInt8) : ByteArray := ⟨l.toArray⟩
theorem ofL_size (l : List UInt8) : (ofL l).size = l.length := by simp [ofL, ByteArray.size]
theorem ofL_app (l m : List UInt8) : ofL l ++ ofL m = ofL (l ++ m) := by
  apply ByteArray.ext; simp [ofL]
theorem ofL_data (l : List UInt8) : (ofL l).data.toList = l := by simp [ofL]
theorem bt_get (s : ByteArray) (i : Int) (h0 : 0 ≤ i) (h : i.toNat < s.size) : bt s i = (s.data.toList[i.toNat]'(by simpa using h)).toNat := by
  unfold bt
  rw [dif_pos h]
  rfl
theorem u8_eq (c : UInt8) (n : Nat) (hn : n < 256) : ((c.toNat : Int) = (n : Int)) ↔ c = UInt8.ofNat n := by
  constructor
  · intro h
    have : c.toNat = n := by omega
    rw [← UInt8.toNat_inj, this]
    simp
    omega
  · intro h
    rw [h]
    simp
    omega
theorem impl_isPart_ev (n : Int) : impl_isPart.f n = some (decide (Pt n)) := by
  unfold impl_isPart.f Pt
  split
  · exact sd (by omega)
  · exact sf (by omega)
theorem spec_l1In_ev (n a b : Int) : spec_l1In.f n a b = some (decide (a ≤ n ∧ n ≤ b)) := by
  unfold spec_l1In.f
  split
  · exact sd (by omega)
  · exact sf (by omega)
theorem impl_gcd_l0 (n : Nat) : ∀ (k : Nat) (a b : Int), b.natAbs ≤ n → n < k → a.natAbs ≤ 4611686018427387904 → b.natAbs ≤ 4611686018427387904 → impl_gcd.l0 k a b = some (Int.gcd a b : Int) := by
  induction n with
  | zero =>
    intro k a b hb hk ha _
    obtain ⟨k, rfl⟩ : ∃ m, k = m + 1 := ⟨k - 1, by omega⟩
    have hb0 : b = 0 := by omega
    simp only [impl_gcd.l0]
    rw [if_pos hb0, w64 (by omega), hb0, Int.gcd_zero_right]
    unfold mx; congr 1; split <;> omega
  | succ n ih =>
    intro k a b hb hk ha hb'
    obtain ⟨k, rfl⟩ : ∃ m, k = m + 1 := ⟨k - 1, by omega⟩
    simp only [impl_gcd.l0]
    by_cases h : b = 0
    · rw [if_pos h, w64 (by omega), h, Int.gcd_zero_right]
      unfold mx; congr 1; split <;> omega
    · rw [if_neg h]
      have := tmod_lt a b h
      rw [ih k b (Int.tmod a b) (by omega) (by omega) (by omega) (by omega), gcd_step]
theorem impl_gcd_ev (k : Nat) (hk : 1000002 ≤ k) (a b : Int) (ha : Pt a) (hb : Pt b) : impl_gcd.f k a b = some (Int.gcd a b : Int) := by
  unfold Pt at ha hb
  exact impl_gcd_l0 1000001 k a b (by omega) (by omega) (by omega) (by omega)
theorem spec_l1Common_l0 (n : Nat) : ∀ (k : Nat) (a b : Int), 0 ≤ a → 0 ≤ b → b.natAbs ≤ n → n < k → spec_l1Common.l0 k a b = some (Int.gcd a b : Int) := by
  induction n with
  | zero =>
    intro k a b ha hb0 hb hk
    obtain ⟨k, rfl⟩ : ∃ m, k = m + 1 := ⟨k - 1, by omega⟩
    have hb0 : b = 0 := by omega
    subst hb0
    simp only [spec_l1Common.l0]
    rw [if_neg (by omega), Int.gcd_zero_right]
    congr 1; omega
  | succ n ih =>
    intro k a b ha hb0 hb hk
    obtain ⟨k, rfl⟩ : ∃ m, k = m + 1 := ⟨k - 1, by omega⟩
    simp only [spec_l1Common.l0]
    by_cases h : b = 0
    · subst h
      rw [if_neg (by omega), Int.gcd_zero_right]
      congr 1; omega
    · rw [if_pos (by omega), if_neg h]
      have := tmod_lt a b h
      have h2 := Int.tmod_nonneg b ha
      rw [ih k b (Int.tmod a b) hb0 h2 (by omega) (by omega), gcd_step]
theorem mx_abs (a : Int) (h : Pt a) : mx a (wrap64 (-a)) = (a.natAbs : Int) := by
  unfold Pt at h
  rw [w64 (by omega)]
  unfold mx; split <;> omega
theorem spec_l1Common_ev (k : Nat) (hk : 1000002 ≤ k) (a b : Int) (ha : Pt a) (hb : Pt b) : spec_l1Common.f k a b = some (Int.gcd a b : Int) := by
  unfold spec_l1Common.f
  rw [mx_abs a ha, mx_abs b hb, spec_l1Common_l0 1000001 k _ _ (by omega) (by omega) (by unfold Pt at hb; omega) (by omega)]
  rfl
theorem impl_isFraction_ev (k : Nat) (hk : 1000002 ≤ k) (u d : Int) : impl_isFraction.f k u d = some (decide (Fr u d)) := by
  unfold impl_isFraction.f
  simp only [impl_isPart_ev, Option.bind_some, decide_eq_true_eq]
  by_cases hu : Pt u
  · rw [if_pos hu]
    by_cases h1 : d < 0
    · rw [if_pos h1]; exact sf (by intro h; unfold Fr at h; omega)
    · rw [if_neg h1]
      by_cases h2 : d > 1000000
      · rw [if_pos h2]; exact sf (by intro h; unfold Fr at h; omega)
      · rw [if_neg h2]
        have hd : Pt d := by unfold Pt; omega
        rw [impl_gcd_ev k hk u d hu hd]
        unfold Pt at hu
        have e : ((Int.gcd u d : Int) == 1) = decide (Int.gcd u d = 1) := by rw [Bool.eq_iff_iff]; simp; omega
        simp only [Option.bind_some, e]
        by_cases h3 : d = 0
        · rw [if_pos h3]
          by_cases h4 : u = 1
          · rw [if_pos h4]; exact sd (by unfold Fr; omega)
          · rw [if_neg h4]; exact sf (by intro h; unfold Fr at h; omega)
        · rw [if_neg h3]; exact sd (by unfold Fr; omega)
  · rw [if_neg hu]; exact sf (by intro h; unfold Fr at h; unfold Pt at hu; omega)
theorem impl_FractionOk_ev (k : Nat) (hk : 1000002 ≤ k) (u d : Int) : impl_FractionOk.f k u d = some (decide (Fr u d)) := by
  unfold impl_FractionOk.f
  rw [impl_isFraction_ev k hk]; rfl
theorem spec_FractionOk_ev (k : Nat) (hk : 1000002 ≤ k) (u d : Int) : spec_FractionOk.f k u d = some (decide (Fr u d)) := by
  unfold spec_FractionOk.f
  simp only [spec_l1In_ev, Option.bind_some, decide_eq_true_eq]
  by_cases hu : -1000000 ≤ u ∧ u ≤ 1000000
  · rw [if_pos hu]
    by_cases hd : 0 ≤ d ∧ d ≤ 1000000
    · rw [if_pos hd, spec_l1Common_ev k hk u d hu (by unfold Pt; omega)]
      simp only [Option.bind_some]
      by_cases h1 : (Int.gcd u d : Int) = 1
      · rw [if_pos h1]
        by_cases h3 : d > 0
        · rw [if_pos h3]; exact st (by unfold Fr; omega)
        · rw [if_neg h3]
          have e : (u == 1) = decide (u = 1) := by rw [Bool.eq_iff_iff]; simp
          rw [e]; exact sd (by unfold Fr; omega)
      · rw [if_neg h1]; exact sf (by intro h; unfold Fr at h; omega)
    · rw [if_neg hd]; exact sf (by intro h; unfold Fr at h; omega)
  · rw [if_neg hu]; exact sf (by intro h; unfold Fr at h; omega)
theorem spec_LowestOf_ev (k : Nat) (hk : 1000003 ≤ k) (u d : Int) : spec_LowestOf.f k u d = some (if Pt u ∧ Pt d ∧ ¬(u = 0 ∧ d = 0) then (lowU u d, lowD u d, true) else (0, 0, false)) := by
  obtain ⟨k, rfl⟩ : ∃ m, k = m + 1 := ⟨k - 1, by omega⟩
  have jt : spec_LowestOf.j0 (k + 1) u d true = some (0, 0, false) := by simp only [spec_LowestOf.j0]; rw [if_pos trivial]
  have jf : Pt u → Pt d → ¬(u = 0 ∧ d = 0) → spec_LowestOf.j0 (k + 1) u d false = some (lowU u d, lowD u d, true) := by
    intro hu hd h
    simp only [spec_LowestOf.j0]
    rw [if_neg (by simp), spec_l1Common_ev k (by omega) u d hu hd]
    simp only [Option.bind_some]
    have hg := gcd_pos u d h
    have hl := gcd_le_pt u d hu hd
    have e1 : wrap64 (-(Int.gcd u d : Int)) = -(Int.gcd u d : Int) := w64 (by omega)
    unfold lowU lowD sg
    rw [e1]
    simp only [tdiv_w _ _ hu, tdiv_w _ _ hd]
    by_cases h1 : d < 0
    · rw [if_pos h1, if_neg (by omega), if_pos (by omega)]
    · rw [if_neg h1]
      by_cases h2 : d = 0
      · rw [if_pos h2]
        by_cases h3 : u < 0
        · rw [if_pos h3, if_neg (by omega), if_pos (by omega)]
        · rw [if_neg h3, if_neg (by omega), if_neg (by omega)]
      · rw [if_neg h2, if_neg (by omega), if_neg (by omega)]
  have pt : ∀ n : Int, (-1000000 ≤ n ∧ n ≤ 1000000) ↔ Pt n := fun n => Iff.rfl
  unfold spec_LowestOf.f
  simp only [spec_l1In_ev, Option.bind_some, decide_eq_true_eq, pt]
  by_cases hu : Pt u
  · rw [if_pos hu]
    by_cases hd : Pt d
    · rw [if_pos hd]
      by_cases h : u = 0 ∧ d = 0
      · rw [if_pos h.1, if_neg (fun x => x.2.2 h)]
        have : (d == 0) = true := by simpa using h.2
        rw [this]; exact jt
      · have hp : Pt u ∧ Pt d ∧ ¬(u = 0 ∧ d = 0) := ⟨hu, hd, h⟩
        rw [if_pos hp]
        by_cases h1 : u = 0
        · rw [if_pos h1]
          have : (d == 0) = false := by simpa using (by omega : ¬ d = 0)
          rw [this]; exact jf hu hd h
        · rw [if_neg h1]; exact jf hu hd h
    · rw [if_neg hd, if_neg (fun x => hd x.2.1)]; exact jt
  · rw [if_neg hu, if_neg (fun x => hu x.1)]; exact jt
def Bs (l : List Int) : Prop := l.length ≤ 2000 ∧ ∀ i, 0 ≤ rd l i ∧ rd l i ≤ 255
theorem xor_nn (a b : Int) (ha : 0 ≤ a ∧ a ≤ 4611686018427387903) (hb : 0 ≤ b ∧ b ≤ 4611686018427387903) : 0 ≤ Go.bits .xor .i64 a b := by
  obtain ⟨m, rfl⟩ : ∃ m : Nat, a = m := ⟨a.toNat, by omega⟩
  obtain ⟨n, rfl⟩ : ∃ m : Nat, b = m := ⟨b.toNat, by omega⟩
  have hm : m < 2 ^ 62 := by omega
  have hn : n < 2 ^ 62 := by omega
  have hx := Nat.xor_lt_two_pow hm hn
  have e1 : m % 2 ^ IntKind.i64.bits = m := Nat.mod_eq_of_lt (Nat.lt_trans hm (by decide))
  have e2 : n % 2 ^ IntKind.i64.bits = n := Nat.mod_eq_of_lt (Nat.lt_trans hn (by decide))
  simp only [Go.bits, BitVec.ofInt_natCast, BitVec.toNat_xor, BitVec.toNat_ofNat, e1, e2]
  have e3 := IntKind.wrap_i64 ((m ^^^ n : Nat) : Int)
  rw [e3]
  omega
theorem tmod_rng (a n : Int) (ha : 0 ≤ a) (hn : 1 ≤ n) : 0 ≤ Int.tmod a n ∧ Int.tmod a n < n := ⟨Int.tmod_nonneg n ha, Int.tmod_lt_of_pos a (by omega)⟩
theorem pick_ev (k : Nat) (hk : 1 ≤ k) (l : List Int) (hl : Bs l) (p n : Int) (hp : 0 ≤ p ∧ p ≤ 1000000) (hn : n ≤ 10000000) :
    ∃ r, spec_l20Rd_pick.f k l p n = some (r, p + 1) ∧ 0 ≤ r ∧ (1 ≤ n → r < n) ∧ (n < 1 → r = 0) := by
  obtain ⟨k, rfl⟩ : ∃ m, k = m + 1 := ⟨k - 1, by omega⟩
  unfold spec_l20Rd_pick.f
  have e0 : wrap64 (p + 1) = p + 1 := w64 (by omega)
  have e1 : wrap64 (p + 1 - 1) = p := by rw [w64 (by omega)]; omega
  rw [e0]
  by_cases h1 : n < 1
  · rw [if_pos h1]
    simp only [spec_l20Rd_pick.j0]
    rw [if_pos trivial]
    exact ⟨0, rfl, by omega, by omega, fun _ => rfl⟩
  · rw [if_neg h1]
    simp only [spec_l20Rd_pick.j0]
    by_cases h2 : (l.length : Int) = 0
    · rw [if_pos (by simpa using h2)]
      exact ⟨0, rfl, by omega, by omega, fun _ => rfl⟩
    · rw [if_neg (by simpa using h2), e1]
      have hn0 : ¬ n = 0 := by omega
      by_cases h3 : p < (l.length : Int)
      · rw [if_pos h3, if_pos hp.1, if_neg hn0]
        have hr := hl.2 p
        rw [w64 (by omega : -9223372036854775808 ≤ rd l p ∧ _)]
        have := tmod_rng (rd l p) n (by omega) (by omega)
        exact ⟨_, rfl, this.1, fun _ => this.2, by omega⟩
      · rw [if_neg h3, if_neg h2]
        have t1 := tmod_rng p (l.length : Int) hp.1 (by omega)
        have e7 : wrap64 (wrap64 (p * 7) + 3) = p * 7 + 3 := by rw [w64 (by omega : -9223372036854775808 ≤ p * 7 ∧ _), w64 (by omega)]
        rw [e7]
        have t2 := tmod_rng (p * 7 + 3) (l.length : Int) (by omega) (by omega)
        rw [if_pos t1.1, if_pos t1.2, if_pos t2.1, if_pos t2.2, if_neg hn0]
        have r1 := hl.2 (Int.tmod p (l.length : Int))
        have r2 := hl.2 (Int.tmod (p * 7 + 3) (l.length : Int))
        generalize rd l (Int.tmod p (l.length : Int)) = a at r1 ⊢
        generalize rd l (Int.tmod (p * 7 + 3) (l.length : Int)) = b at r2 ⊢
        have q0 := tdiv_le p (l.length : Int)
        have q1 : 0 ≤ Int.tdiv p (l.length : Int) := Int.tdiv_nonneg hp.1 (by omega)
        generalize Int.tdiv p (l.length : Int) = q at q0 q1 ⊢
        have e2 : wrap64 a = a := w64 (by omega)
        have e3 : wrap64 b = b := w64 (by omega)
        have e4 : wrap64 q = q := w64 (by omega)
        rw [e2, e3, e4]
        have e5 : wrap64 (a * 131) = a * 131 := w64 (by omega)
        have e6 : wrap64 (b * 1117) = b * 1117 := w64 (by omega)
        have e8 : wrap64 (q * 53) = q * 53 := w64 (by omega)
        have e9 : wrap64 (p * 29) = p * 29 := w64 (by omega)
        rw [e5, e6, e8, e9]
        have e10 : wrap64 (a * 131 + b * 1117) = a * 131 + b * 1117 := w64 (by omega)
        rw [e10]
        have e11 : wrap64 (a * 131 + b * 1117 + p * 29) = a * 131 + b * 1117 + p * 29 := w64 (by omega)
        rw [e11]
        have e12 : wrap64 (a * 131 + b * 1117 + p * 29 + q * 53) = a * 131 + b * 1117 + p * 29 + q * 53 := w64 (by omega)
        rw [e12]
        have hX : 0 ≤ a * 131 + b * 1117 + p * 29 + q * 53 ∧ a * 131 + b * 1117 + p * 29 + q * 53 ≤ 4611686018427387903 := by omega
        generalize a * 131 + b * 1117 + p * 29 + q * 53 = X at hX ⊢
        have q2 := tdiv_le X 64
        have q3 : 0 ≤ Int.tdiv X 64 := Int.tdiv_nonneg hX.1 (by omega)
        have e13 : wrap64 (Int.tdiv X 64) = Int.tdiv X 64 := w64 (by omega)
        rw [e13]
        have := tmod_rng _ n (xor_nn X (Int.tdiv X 64) hX (by omega)) (by omega)
        exact ⟨_, rfl, this.1, fun _ => this.2, by omega⟩
theorem odd_ev (k : Nat) (hk : 1 ≤ k) (l : List Int) (hl : Bs l) (p n : Int) (hp : 0 ≤ p ∧ p ≤ 1000000) (hn : n ≤ 10000000) :
    ∃ b p', spec_l20Rd_odd.f k l p n = some (b, p') ∧ p ≤ p' ∧ p' ≤ p + 1 := by
  unfold spec_l20Rd_odd.f
  by_cases h : n > 0
  · rw [if_pos h]
    obtain ⟨r, e, _⟩ := pick_ev k hk l hl p n hp hn
    rw [e]
    exact ⟨_, _, rfl, by omega, by omega⟩
  · rw [if_neg h]; exact ⟨_, _, rfl, by omega, by omega⟩
theorem open_ev (l : List Int) (hw : ∀ x ∈ l, (Lit.int .u8 x).wf = true) : ∃ m, spec_l20Open.f l = some (m, 0) ∧ Bs m := by
  have key : ∀ m : List Int, m.length ≤ 2000 → (∀ x ∈ m, x ∈ l) → Bs m := by
    intro m hm hs
    refine ⟨hm, fun i => ?_⟩
    unfold rd
    by_cases h : i.toNat < m.length
    · have : m.getD i.toNat 0 = m[i.toNat] := by simp [h]
      rw [this]
      have h1 := hw _ (hs _ (List.getElem_mem h))
      simp [Lit.wf, IntKind.min, IntKind.max, IntKind.signed, IntKind.bits] at h1
      omega
    · have : m.getD i.toNat 0 = 0 := by simp [Nat.le_of_not_lt h]
      rw [this]; omega
  unfold spec_l20Open.f
  by_cases h : (l.length : Int) > 2000
  · rw [if_pos h, if_pos (by omega)]
    exact ⟨_, rfl, key _ (by simp; omega) (fun x hx => List.mem_of_mem_take hx)⟩
  · rw [if_neg h]
    exact ⟨_, rfl, key _ (by omega) (fun x hx => hx)⟩
def Bd (n : Int) : Prop := -2000000 ≤ n ∧ n ≤ 2000000
theorem low_bd {u d : Int} (hu : Pt u) (hd : Pt d) : Bd (lowU u d) ∧ Bd (lowD u d) := by
  have h1 := tdiv_le u (sg u d)
  have h2 := tdiv_le d (sg u d)
  unfold Pt at hu hd
  unfold Bd lowU lowD
  omega
theorem fraction_ev (k : Nat) (hk : 1000004 ≤ k) (l : List Int) (hl : Bs l) (p n : Int) (hp : 0 ≤ p ∧ p ≤ 900000) (hn : n ≤ 10000000) :
    ∃ u d p', spec_l20Fraction.f k l p n = some (u, d, p') ∧ p ≤ p' ∧ p' ≤ p + 10 ∧ Bd u ∧ Bd d := by
  have j : ∀ (k : Nat) (p u d : Int), 2 ≤ k → 0 ≤ p → p ≤ 900010 → Bd u → Bd d → ∃ u' d' p', spec_l20Fraction.j0 k n l p u d = some (u', d', p') ∧ p ≤ p' ∧ p' ≤ p + 2 ∧ Bd u' ∧ Bd d' := by
    intro k p u d hk h0 h1 hu hd
    obtain ⟨k, rfl⟩ : ∃ m, k = m + 1 := ⟨k - 1, by omega⟩
    simp only [spec_l20Fraction.j0]
    obtain ⟨b, p', e, h2, h3⟩ := odd_ev k (by omega) l hl p n (by omega) hn
    rw [e]
    simp only [Option.bind_some]
    by_cases hb : b = true
    · rw [if_pos hb]
      obtain ⟨r, e2, h4, h5, _⟩ := pick_ev k (by omega) l hl p' 5 (by omega) (by omega)
      rw [e2]
      simp only [Option.bind_some]
      have h6 := h5 (by omega)
      rw [if_pos h4, if_pos (by simp only [List.length_cons, List.length_nil]; omega)]
      refine ⟨_, _, _, rfl, by omega, by omega, ?_⟩
      have : r = 0 ∨ r = 1 ∨ r = 2 ∨ r = 3 ∨ r = 4 := by omega
      unfold Bd
      rcases this with rfl | rfl | rfl | rfl | rfl <;> decide
    · rw [if_neg hb]
      exact ⟨_, _, _, rfl, by omega, by omega, hu, hd⟩
  unfold spec_l20Fraction.f
  simp only [Option.bind_some]
  obtain ⟨r, e1, h1, h2, _⟩ := pick_ev k (by omega) l hl p 4 (by omega) (by omega)
  rw [e1]
  simp only [Option.bind_some]
  have h3 := h2 (by omega)
  rw [if_pos h1, if_pos (by simp only [List.length_cons, List.length_nil]; omega)]
  have hh : 1 ≤ rd [4, 10, 50, 1000] r ∧ rd [4, 10, 50, 1000] r ≤ 1000 := by
    have : r = 0 ∨ r = 1 ∨ r = 2 ∨ r = 3 := by omega
    rcases this with rfl | rfl | rfl | rfl <;> decide
  generalize rd [4, 10, 50, 1000] r = hi at hh ⊢
  obtain ⟨a, e2, a1, a2, _⟩ := pick_ev k (by omega) l hl (p + 1) hi (by omega) (by omega)
  rw [e2]
  simp only [Option.bind_some]
  obtain ⟨b, e3, b1, b2, _⟩ := pick_ev k (by omega) l hl (p + 1 + 1) hi (by omega) (by omega)
  rw [e3]
  simp only [Option.bind_some]
  obtain ⟨c, e4, c1, c2, _⟩ := pick_ev k (by omega) l hl (p + 1 + 1 + 1) hi (by omega) (by omega)
  rw [e4]
  simp only [Option.bind_some]
  have a3 := a2 (by omega)
  have b3 := b2 (by omega)
  have c3 := c2 (by omega)
  rw [w64 (by omega), spec_LowestOf_ev k (by omega)]
  simp only [Option.bind_some]
  by_cases hz : Pt (a - b) ∧ Pt c ∧ ¬(a - b = 0 ∧ c = 0)
  · rw [if_pos hz, if_pos rfl]
    obtain ⟨u, d, p', e, q1, q2, q3⟩ := j k (p + 1 + 1 + 1 + 1) _ _ (by omega) (by omega) (by omega) (low_bd hz.1 hz.2.1).1 (low_bd hz.1 hz.2.1).2
    exact ⟨u, d, p', e, by omega, by omega, q3⟩
  · rw [if_neg hz, if_neg (by simp)]
    obtain ⟨u, d, p', e, q1, q2, q3⟩ := j k (p + 1 + 1 + 1 + 1) 1 0 (by omega) (by omega) (by omega) (by unfold Bd; omega) (by unfold Bd; omega)
    exact ⟨u, d, p', e, by omega, by omega, q3⟩
theorem alive_ev (k : Nat) (hk : 1000002 ≤ k) : laws_alive.f k = some true := by
  unfold laws_alive.f
  simp only [impl_FractionOk_ev k hk, Option.bind_some]
  decide
theorem rdOf_sz (L : List ByteArray) (h : ∀ x ∈ L, x.size ≤ 50) (r : Int) : (rdOf ByteArray.empty L r).size ≤ 50 := by
  unfold rdOf
  by_cases hr : r.toNat < L.length
  · have : L.getD r.toNat ByteArray.empty = L[r.toNat] := by simp [hr]
    rw [this]
    exact h _ (List.getElem_mem hr)
  · have : L.getD r.toNat ByteArray.empty = ByteArray.empty := by simp [Nat.le_of_not_lt hr]
    rw [this]
    decide
theorem strOf_one (x : Int) (h : 0 ≤ x ∧ x < 256) : strOfNums [x] = ofL [UInt8.ofNat x.toNat] := rfl
theorem l1Number_nat (u : Nat) : ∀ k : Nat, 2 * u + 4 ≤ k → u ≤ 100000000 → spec_l1Number.f k (u : Int) = some (ofL (Lib.decDigits u)) := by
  induction u using Nat.strongRecOn with
  | ind u ih =>
    intro k hk hu
    obtain ⟨k, rfl⟩ : ∃ m, k = m + 2 := ⟨k - 2, by omega⟩
    rw [spec_l1Number.f.eq_2, if_neg (by omega), spec_l1Number.j0.eq_2, if_neg (by simp), if_neg (by omega)]
    by_cases h : u < 10
    · rw [if_pos (by omega), w64 (by omega), strOf_one _ (by omega), Lib.decDigits_one h]
      have e : ((48 + (u : Int)) % 256).toNat = 48 + u := by omega
      rw [e]
    · have e1 : Int.tdiv (u : Int) 10 = ((u / 10 : Nat) : Int) := by rw [Int.tdiv_eq_ediv_of_nonneg (by omega)]; omega
      have e2 : Int.tmod (u : Int) 10 = ((u % 10 : Nat) : Int) := by rw [Int.tmod_eq_emod_of_nonneg (by omega)]; omega
      rw [if_neg (by omega), e1, w64 (by omega), ih (u / 10) (by omega) k (by omega) (by omega), e2, w64 (by omega)]
      have e3 : ((48 + ((u % 10 : Nat) : Int)) % 256).toNat = 48 + u % 10 := by omega
      have e4 : Lib.decDigits u = Lib.decDigits (u / 10) ++ [UInt8.ofNat (48 + u % 10)] := by rw [Lib.decDigits, dif_neg h]
      have hl : (Lib.decDigits (u / 10)).length ≤ 21 := by
        have h1 := Lib.itoa_length_le ((u / 10 : Nat) : Int) (by omega) (by omega)
        rw [Lib.itoa_nonneg] at h1
        exact h1
      simp only [Option.bind_some]
      rw [strOf_one _ (by omega), e3, if_pos (by rw [ofL_size, ofL_size]; simp; omega), ofL_app, e4]
theorem spec_l1Number_ev (k : Nat) (n : Int) (hk : 2000020 ≤ k) (hn : -1000000 ≤ n ∧ n ≤ 1000000) : spec_l1Number.f k n = some (ofL (Lib.itoa n)) := by
  by_cases h : n < 0
  · obtain ⟨u, rfl⟩ : ∃ u : Nat, n = -(u : Int) := ⟨n.natAbs, by omega⟩
    obtain ⟨k, rfl⟩ : ∃ m, k = m + 2 := ⟨k - 2, by omega⟩
    have e0 : wrap64 (-(-(u : Int))) = (u : Int) := by rw [w64 (by omega)]; omega
    have e1 : ((-(u : Int)) == (u : Int)) = false := by rw [beq_eq_false_iff_ne]; omega
    have hl : (Lib.decDigits u).length ≤ 21 := by
      have h1 := Lib.itoa_length_le (u : Int) (by omega) (by omega)
      rw [Lib.itoa_nonneg] at h1
      exact h1
    have e2 : (⟨#[45]⟩ : ByteArray) ++ ofL (Lib.decDigits u) = ofL (45 :: Lib.decDigits u) := ofL_app [45] _
    rw [spec_l1Number.f.eq_2, if_pos h, e0, e1, spec_l1Number.j0.eq_2, if_neg (by simp), if_pos h, e0, l1Number_nat u k (by omega) (by omega), Option.bind_some, if_pos (by rw [ofL_size]; omega), e2, Lib.itoa_neg u (by omega)]
  · obtain ⟨u, rfl⟩ : ∃ u : Nat, n = (u : Int) := ⟨n.toNat, by omega⟩
    rw [Lib.itoa_nonneg]
    exact l1Number_nat u k (by omega) (by omega)
def frT (u d : Int) : List UInt8 := if d = 1 then Lib.itoa u else Lib.itoa u ++ (47 :: Lib.itoa d)
theorem itoa_len (n : Int) (hn : -1000000 ≤ n ∧ n ≤ 1000000) : (Lib.itoa n).length ≤ 21 := Lib.itoa_length_le n (by omega) (by omega)
theorem frT_app (u d : Int) : ofL (Lib.itoa u) ++ (⟨#[47]⟩ : ByteArray) ++ ofL (Lib.itoa d) = ofL (Lib.itoa u ++ (47 :: Lib.itoa d)) := by
  have e : (⟨#[47]⟩ : ByteArray) = ofL [47] := rfl
  rw [e, ofL_app, ofL_app]
  simp
theorem spec_FractionText_ev (k : Nat) (hk : 2000020 ≤ k) (u d : Int) : spec_FractionText.f k u d = some (if Fr u d then ofL (frT u d) else ofL []) := by
  unfold spec_FractionText.f
  rw [spec_FractionOk_ev k (by omega), Option.bind_some]
  simp only [decide_eq_true_eq]
  by_cases h : Fr u d
  · have hu : -1000000 ≤ u ∧ u ≤ 1000000 := ⟨h.1, h.2.1⟩
    have hd : -1000000 ≤ d ∧ d ≤ 1000000 := by have := h.2.2.1; have := h.2.2.2.1; omega
    have l1 := itoa_len u hu
    have l2 := itoa_len d hd
    rw [if_pos h, if_pos h, spec_l1Number_ev k u hk hu]
    unfold frT
    by_cases h1 : d = 1
    · rw [if_pos h1, if_pos h1]; rfl
    · rw [if_neg h1, if_neg h1, Option.bind_some, if_pos (by rw [ofL_size]; omega), spec_l1Number_ev k d hk hd, Option.bind_some, if_pos (by rw [ByteArray.size_append, ofL_size, ofL_size]; show _ + 1 + _ ≤ _; omega), frT_app]
  · rw [if_neg h, if_neg h]; rfl
theorem itoa_ev (n : Int) (hn : -1000000 ≤ n ∧ n ≤ 1000000) : strconv_Itoa.f n = some (ofL (Lib.itoa n)) := by
  unfold strconv_Itoa.f
  rw [if_pos (by omega)]; rfl
theorem impl_fractionText_ev (u d : Int) (hu : -1000000 ≤ u ∧ u ≤ 1000000) (hd : -1000000 ≤ d ∧ d ≤ 1000000) : impl_fractionText.f u d = some (ofL (frT u d)) := by
  unfold impl_fractionText.f frT
  have l1 := itoa_len u hu
  have l2 := itoa_len d hd
  rw [itoa_ev u hu]
  by_cases h1 : d = 1
  · rw [if_pos h1, if_pos h1]; rfl
  · rw [if_neg h1, if_neg h1, Option.bind_some, if_pos (by rw [ofL_size]; omega), itoa_ev d hd, Option.bind_some, if_pos (by rw [ByteArray.size_append, ofL_size, ofL_size]; show _ + 1 + _ ≤ _; omega), frT_app]
theorem impl_FractionText_ev (k : Nat) (hk : 1000003 ≤ k) (u d : Int) : impl_FractionText.f k u d = some (if Fr u d then ofL (frT u d) else ofL []) := by
  unfold impl_FractionText.f
  rw [impl_isFraction_ev k (by omega), Option.bind_some]
  simp only [decide_eq_true_eq]
  by_cases h : Fr u d
  · have hu : -1000000 ≤ u ∧ u ≤ 1000000 := ⟨h.1, h.2.1⟩
    have hd : -1000000 ≤ d ∧ d ≤ 1000000 := by have := h.2.2.1; have := h.2.2.2.1; omega
    rw [if_pos h, if_pos h, impl_fractionText_ev u d hu hd]; rfl
  · rw [if_neg h, if_neg h]; rfl
theorem u8n (n : Nat) (h : n < 256) : (UInt8.ofNat n).toNat = n := by
  rw [UInt8.toNat_ofNat']
  omega
def valD (acc : Nat) (l : List UInt8) : Nat := l.foldl (fun a c => a * 10 + (c.toNat - 48)) acc
def digs (l : List UInt8) : Prop := ∀ c ∈ l, 48 ≤ c.toNat ∧ c.toNat ≤ 57
theorem dd_rec (u : Nat) (h : ¬ u < 10) : Lib.decDigits u = Lib.decDigits (u / 10) ++ [UInt8.ofNat (48 + u % 10)] := by rw [Lib.decDigits, dif_neg h]
theorem dd_dig (u : Nat) : digs (Lib.decDigits u) := by
  induction u using Nat.strongRecOn with
  | ind u ih =>
    intro c hc
    by_cases h : u < 10
    · rw [Lib.decDigits_one h, List.mem_singleton] at hc
      rw [hc, u8n _ (by omega)]; omega
    · rw [dd_rec u h, List.mem_append, List.mem_singleton] at hc
      rcases hc with hc | hc
      · exact ih (u / 10) (by omega) c hc
      · rw [hc, u8n _ (by omega)]; omega
theorem valD_snoc (acc : Nat) (l : List UInt8) (c : UInt8) : valD acc (l ++ [c]) = valD acc l * 10 + (c.toNat - 48) := by
  unfold valD; rw [List.foldl_append]; rfl
theorem valD_app (acc : Nat) (l m : List UInt8) : valD acc (l ++ m) = valD (valD acc l) m := by
  unfold valD; rw [List.foldl_append]
theorem dd_val (u : Nat) : valD 0 (Lib.decDigits u) = u := by
  induction u using Nat.strongRecOn with
  | ind u ih =>
    by_cases h : u < 10
    · rw [Lib.decDigits_one h]
      show 0 * 10 + ((UInt8.ofNat (48 + u)).toNat - 48) = u
      rw [u8n _ (by omega)]; omega
    · rw [dd_rec u h, valD_snoc, ih (u / 10) (by omega), u8n _ (by omega)]; omega
theorem dd_pos (u : Nat) : 1 ≤ (Lib.decDigits u).length := by
  rw [Lib.decDigits_length]; exact Lib.nDigits_pos u
theorem dd_len (k : Nat) : ∀ u : Nat, u < 10 ^ (k + 1) → (Lib.decDigits u).length ≤ k + 1 := by
  induction k with
  | zero =>
    intro u h
    rw [Lib.decDigits_one (by omega)]; simp
  | succ k ih =>
    intro u h
    by_cases h1 : u < 10
    · rw [Lib.decDigits_one h1]; simp
    · rw [dd_rec u h1, List.length_append]
      have := ih (u / 10) (by rw [Nat.pow_succ] at h; omega)
      simp; omega
theorem dd_len7 (u : Nat) (h : u ≤ 1000000) : (Lib.decDigits u).length ≤ 7 := by
  have e : (10 : Nat) ^ (6 + 1) = 10000000 := by decide
  exact dd_len 6 u (by rw [e]; omega)
theorem dd_head (u : Nat) (h1 : 1 ≤ u) : ∃ c r, Lib.decDigits u = c :: r ∧ c.toNat ≠ 48 := by
  induction u using Nat.strongRecOn with
  | ind u ih =>
    by_cases h : u < 10
    · exact ⟨_, [], Lib.decDigits_one h, by rw [u8n _ (by omega)]; omega⟩
    · obtain ⟨c, r, e, hc⟩ := ih (u / 10) (by omega) (by omega)
      exact ⟨c, r ++ [UInt8.ofNat (48 + u % 10)], by rw [dd_rec u h, e]; rfl, hc⟩
theorem valD_ge (l : List UInt8) : ∀ acc : Nat, acc ≤ valD acc l := by
  induction l with
  | nil => intro acc; exact Nat.le_refl _
  | cons c l ih =>
    intro acc
    have := ih (acc * 10 + (c.toNat - 48))
    show acc ≤ valD (acc * 10 + (c.toNat - 48)) l
    omega
theorem parse_ok (l : List UInt8) : ∀ acc : Nat, digs l → valD acc l ≤ 1000000000 → Lib.parseUint10 acc l = .ok (valD acc l) := by
  induction l with
  | nil => intro acc _ _; rfl
  | cons c l ih =>
    intro acc hd hv
    have hc := hd c (List.mem_cons_self ..)
    have hv' : valD (acc * 10 + (c.toNat - 48)) l ≤ 1000000000 := hv
    have hge := valD_ge l (acc * 10 + (c.toNat - 48))
    simp only [Lib.parseUint10]
    rw [if_pos hc, if_neg (by omega), if_neg (by omega)]
    exact ih _ (fun x hx => hd x (List.mem_cons_of_mem _ hx)) hv'
theorem parse_dd (u : Nat) (h : u ≤ 1000000) : Lib.parseMag (Lib.decDigits u) = .ok u := by
  unfold Lib.parseMag
  have hp := dd_pos u
  rw [if_neg (by intro e; rw [e] at hp; simp at hp), parse_ok _ 0 (dd_dig u) (by rw [dd_val]; omega), dd_val]
theorem atoi_dd (u : Nat) (h : u ≤ 1000000) : Lib.atoiAll (Lib.decDigits u) = .ok (u : Int) := by
  have hp := dd_pos u
  have hm := parse_dd u h
  cases e : Lib.decDigits u with
  | nil => rw [e] at hp; simp at hp
  | cons c r =>
    have hc := dd_dig u c (by rw [e]; exact List.mem_cons_self ..)
    rw [e] at hm
    simp only [Lib.atoiAll]
    rw [if_neg (by omega), hm]
    simp only
    rw [if_neg (by omega), if_neg (by omega), if_neg (by omega)]
theorem atoi_ddn (u : Nat) (h : u ≤ 1000000) : Lib.atoiAll (45 :: Lib.decDigits u) = .ok (-(u : Int)) := by
  have hm := parse_dd u h
  have e : (45 : UInt8).toNat = 45 := rfl
  simp only [Lib.atoiAll]
  rw [if_pos (by omega), hm]
  simp only
  rw [if_neg (by omega), if_neg (by omega), if_pos e]
theorem atoi_itoa (n : Int) (h : -1000000 ≤ n ∧ n ≤ 1000000) : Lib.atoiAll (Lib.itoa n) = .ok n := by
  by_cases h0 : n < 0
  · obtain ⟨u, rfl⟩ : ∃ u : Nat, n = -(u : Int) := ⟨n.natAbs, by omega⟩
    rw [Lib.itoa_neg u (by omega)]
    exact atoi_ddn u (by omega)
  · obtain ⟨u, rfl⟩ : ∃ u : Nat, n = (u : Int) := ⟨n.toNat, by omega⟩
    rw [Lib.itoa_nonneg]
    exact atoi_dd u (by omega)
theorem itoa_no (n : Int) (c : UInt8) (hc : c ∈ Lib.itoa n) : ¬ c = 47 := by
  intro e
  subst e
  have e47 : (47 : UInt8).toNat = 47 := rfl
  unfold Lib.itoa at hc
  split at hc
  · rcases List.mem_cons.1 hc with h | h
    · exact absurd h (by decide)
    · have := dd_dig _ _ h; omega
  · have := dd_dig _ _ hc; omega
theorem itoa_last (n : Int) : ∃ l c, Lib.itoa n = l ++ [c] ∧ ¬ c = 47 := by
  have hl : ∀ u : Nat, ∃ l c, Lib.decDigits u = l ++ [c] := by
    intro u
    by_cases h : u < 10
    · exact ⟨[], _, Lib.decDigits_one h⟩
    · exact ⟨_, _, dd_rec u h⟩
  unfold Lib.itoa
  split
  · obtain ⟨l, c, e⟩ := hl n.natAbs
    refine ⟨45 :: l, c, by rw [e]; rfl, ?_⟩
    intro e2
    have := dd_dig n.natAbs c (by rw [e]; simp)
    rw [e2] at this
    have e47 : (47 : UInt8).toNat = 47 := rfl
    omega
  · obtain ⟨l, c, e⟩ := hl n.toNat
    refine ⟨l, c, e, ?_⟩
    intro e2
    have := dd_dig n.toNat c (by rw [e]; simp)
    rw [e2] at this
    have e47 : (47 : UInt8).toNat = 47 := rfl
    omega
theorem frT_last (u d : Int) : ∃ l c, frT u d = l ++ [c] ∧ ¬ c = 47 := by
  unfold frT
  split
  · exact itoa_last u
  · obtain ⟨l, c, e, h⟩ := itoa_last d
    exact ⟨Lib.itoa u ++ (47 :: l), c, by rw [e]; simp, h⟩
theorem frT_len (u d : Int) (hu : -1000000 ≤ u ∧ u ≤ 1000000) (hd : -1000000 ≤ d ∧ d ≤ 1000000) : (frT u d).length ≤ 50 := by
  have l1 := itoa_len u hu
  have l2 := itoa_len d hd
  unfold frT
  split
  · omega
  · simp; omega
theorem idx_none (l : List UInt8) (h : ∀ c ∈ l, ¬ c = 47) : Lib.index l [47] = -1 := by
  rw [Lib.index_one]
  induction l with
  | nil => rfl
  | cons c l ih =>
    have h1 := h c (List.mem_cons_self ..)
    have h2 := ih (fun x hx => h x (List.mem_cons_of_mem _ hx))
    simp only [Lib.indexByte]
    rw [h2]
    simp [h1]
theorem idx_at (p q : List UInt8) (h : ∀ c ∈ p, ¬ c = 47) : Lib.index (p ++ 47 :: q) [47] = (p.length : Int) := by
  rw [Lib.index_one]
  induction p with
  | nil => simp [Lib.indexByte]
  | cons c p ih =>
    have h1 := h c (List.mem_cons_self ..)
    have h2 := ih (fun x hx => h x (List.mem_cons_of_mem _ hx))
    rw [List.cons_append]
    simp only [Lib.indexByte]
    rw [h2]
    have e : (((p.length : Nat) : Int) == -1) = false := by rw [beq_eq_false_iff_ne]; omega
    have e2 : (c == (47 : UInt8)) = false := by rw [beq_eq_false_iff_ne]; exact h1
    rw [e, e2]
    simp
theorem cut_none (l : List UInt8) (h : ∀ c ∈ l, ¬ c = 47) : Lib.cut l [47] = (l, [], false) := by
  unfold Lib.cut
  rw [idx_none l h, if_neg (by omega)]
theorem cut_at (p q : List UInt8) (h : ∀ c ∈ p, ¬ c = 47) : Lib.cut (p ++ 47 :: q) [47] = (p, q, true) := by
  unfold Lib.cut
  rw [idx_at p q h, if_pos (by omega)]
  simp
theorem cut_len (l : List UInt8) : (Lib.cut l [47]).1.length ≤ l.length ∧ (Lib.cut l [47]).2.1.length ≤ l.length := by
  unfold Lib.cut
  split
  · simp; omega
  · simp
theorem cut_ev (s : ByteArray) (hs : s.size ≤ 1000000000) : strings_Cut.f s (⟨#[47]⟩ : ByteArray) = some (ofL (Lib.cut s.data.toList [47]).1, ofL (Lib.cut s.data.toList [47]).2.1, (Lib.cut s.data.toList [47]).2.2) := by
  unfold strings_Cut.f
  have hy : s.size < 4294967281 ∧ (⟨#[47]⟩ : ByteArray) = ⟨#[47]⟩ := ⟨by omega, rfl⟩
  rw [if_pos hy]; rfl
theorem atoi_ev (l : List UInt8) (hs : l.length ≤ 1000000000) : strconv_Atoi.f (ofL l) = some ((Tryd.atoiV l).1, (Tryd.atoiV l).2) := by
  unfold strconv_Atoi.f
  rw [if_pos (by rw [ofL_size]; omega), ofL_data]
theorem atoiV_itoa (n : Int) (h : -1000000 ≤ n ∧ n ≤ 1000000) : Tryd.atoiV (Lib.itoa n) = (n, true) := by
  unfold Tryd.atoiV
  rw [atoi_itoa n h]
theorem toList_ofL (l : List UInt8) : (ofL l).toList = l := by rw [ByteArray.toList_eq, ofL_data]
theorem toList_data (s : ByteArray) : s.toList = s.data.toList := ByteArray.toList_eq s
def RFok (s : ByteArray) (r : Int × Int × Bool) : Prop := (r.2.2 = true ∧ Fr r.1 r.2.1 ∧ frT r.1 r.2.1 = s.data.toList) ∨ r = (0, 0, false)
theorem impl_RF_j0 (k : Nat) (hk : 1000010 ≤ k) (s : ByteArray) (x : Int) (b : Bool) (y : Int) : ∃ r, impl_ReadFraction.j0 (k + 1) s x b y = some r ∧ RFok s r ∧ (b = true → Fr x y → frT x y = s.data.toList → r = (x, y, true)) := by
  simp only [impl_ReadFraction.j0]
  cases b with
  | false => exact ⟨_, if_neg (by simp), Or.inr rfl, fun h => by cases h⟩
  | true =>
    rw [if_pos rfl, impl_isFraction_ev k (by omega), Option.bind_some]
    simp only [decide_eq_true_eq]
    by_cases h : Fr x y
    · have hu : -1000000 ≤ x ∧ x ≤ 1000000 := ⟨h.1, h.2.1⟩
      have hd : -1000000 ≤ y ∧ y ≤ 1000000 := by have := h.2.2.1; have := h.2.2.2.1; omega
      rw [if_pos h, impl_fractionText_ev x y hu hd, Option.bind_some, toList_ofL, toList_data]
      by_cases h2 : frT x y = s.data.toList
      · rw [if_pos h2]
        exact ⟨_, rfl, Or.inl ⟨rfl, h, h2⟩, fun _ _ _ => rfl⟩
      · rw [if_neg h2]
        exact ⟨_, rfl, Or.inr rfl, fun _ _ h3 => absurd h3 h2⟩
    · rw [if_neg h]
      exact ⟨_, rfl, Or.inr rfl, fun _ h3 => absurd h3 h⟩
theorem impl_RF (k : Nat) (hk : 1000020 ≤ k) (s : ByteArray) (hs : s.size ≤ 1000000000) : ∃ r, impl_ReadFraction.f k s = some r ∧ RFok s r ∧ (∀ u d, Fr u d → frT u d = s.data.toList → r = (u, d, true)) := by
  obtain ⟨k, rfl⟩ : ∃ m, k = m + 1 := ⟨k - 1, by omega⟩
  have hsz : s.data.toList.length = s.size := by simp
  have hc := cut_len s.data.toList
  unfold impl_ReadFraction.f
  rw [cut_ev s hs, Option.bind_some]
  dsimp only
  rw [atoi_ev _ (by omega), Option.bind_some]
  dsimp only
  by_cases hh : (Lib.cut s.data.toList [47]).2.2 = true
  · rw [if_pos hh, atoi_ev _ (by omega), Option.bind_some]
    dsimp only
    by_cases hb : (Tryd.atoiV (Lib.cut s.data.toList [47]).2.1).2 = true
    · rw [if_pos hb]
      obtain ⟨r, e, h1, h2⟩ := impl_RF_j0 k (by omega) s (Tryd.atoiV (Lib.cut s.data.toList [47]).1).1 (Tryd.atoiV (Lib.cut s.data.toList [47]).1).2 (Tryd.atoiV (Lib.cut s.data.toList [47]).2.1).1
      refine ⟨r, e, h1, fun u d hF ht => ?_⟩
      have hu : -1000000 ≤ u ∧ u ≤ 1000000 := ⟨hF.1, hF.2.1⟩
      have hd : -1000000 ≤ d ∧ d ≤ 1000000 := by have := hF.2.2.1; have := hF.2.2.2.1; omega
      rw [← ht] at hh h2 hb
      unfold frT at hh h2 hb
      by_cases h1' : d = 1
      · rw [if_pos h1', cut_none _ (itoa_no u)] at hh
        cases hh
      · rw [if_neg h1', cut_at _ _ (itoa_no u)] at h2
        rw [atoiV_itoa u hu, atoiV_itoa d hd] at h2
        exact h2 rfl hF (by dsimp only; rw [if_neg h1'])
    · rw [if_neg hb]
      refine ⟨_, rfl, Or.inr rfl, fun u d hF ht => ?_⟩
      have hd : -1000000 ≤ d ∧ d ≤ 1000000 := by have := hF.2.2.1; have := hF.2.2.2.1; omega
      rw [← ht] at hh hb
      unfold frT at hh hb
      by_cases h1' : d = 1
      · rw [if_pos h1', cut_none _ (itoa_no u)] at hh
        cases hh
      · rw [if_neg h1', cut_at _ _ (itoa_no u)] at hb
        exact absurd (by rw [atoiV_itoa d hd]) hb
  · rw [if_neg hh]
    obtain ⟨r, e, h1, h2⟩ := impl_RF_j0 k (by omega) s (Tryd.atoiV (Lib.cut s.data.toList [47]).1).1 (Tryd.atoiV (Lib.cut s.data.toList [47]).1).2 1
    refine ⟨r, e, h1, fun u d hF ht => ?_⟩
    have hu : -1000000 ≤ u ∧ u ≤ 1000000 := ⟨hF.1, hF.2.1⟩
    rw [← ht] at hh h2
    unfold frT at hh h2
    by_cases h1' : d = 1
    · subst h1'
      rw [if_pos rfl, cut_none _ (itoa_no u)] at h2
      rw [atoiV_itoa u hu] at h2
      exact h2 rfl hF rfl
    · rw [if_neg h1', cut_at _ _ (itoa_no u)] at hh
      exact absurd rfl hh
def spl (cur : List UInt8) : List UInt8 → List (List UInt8)
  | [] => [cur]
  | c :: l => if c = 47 then cur :: spl [] l else spl (cur ++ [c]) l
theorem spl_none (l : List UInt8) (h : ∀ c ∈ l, ¬ c = 47) : ∀ cur, spl cur l = [cur ++ l] := by
  induction l with
  | nil => intro cur; simp [spl]
  | cons c l ih =>
    intro cur
    simp only [spl]
    rw [if_neg (h c (List.mem_cons_self ..)), ih (fun x hx => h x (List.mem_cons_of_mem _ hx))]
    simp
theorem spl_at (p q : List UInt8) (h : ∀ c ∈ p, ¬ c = 47) (hq : ∀ c ∈ q, ¬ c = 47) : ∀ cur, spl cur (p ++ 47 :: q) = [cur ++ p, q] := by
  induction p with
  | nil =>
    intro cur
    simp only [List.nil_append, spl]
    rw [if_pos trivial, spl_none q hq]
    simp
  | cons c p ih =>
    intro cur
    rw [List.cons_append]
    simp only [spl]
    rw [if_neg (h c (List.mem_cons_self ..)), ih (fun x hx => h x (List.mem_cons_of_mem _ hx))]
    simp
theorem spl_len (l : List UInt8) : ∀ cur : List UInt8, ∀ x ∈ spl cur l, x.length ≤ cur.length + l.length := by
  induction l with
  | nil => intro cur x hx; simp [spl] at hx; rw [hx]; simp
  | cons c l ih =>
    intro cur x hx
    simp only [spl] at hx
    split at hx
    · rcases List.mem_cons.1 hx with h | h
      · rw [h]; omega
      · have := ih [] x h; simp at this ⊢; omega
    · have := ih _ x hx; simp at this ⊢; omega
theorem spl_cons (l : List UInt8) : ∀ cur : List UInt8, ∃ x r, spl cur l = x :: r := by
  induction l with
  | nil => intro cur; exact ⟨_, _, rfl⟩
  | cons c l ih =>
    intro cur
    simp only [spl]
    split
    · exact ⟨_, _, rfl⟩
    · exact ih _
theorem ext_ofL (s : ByteArray) (a b : Nat) (hb : b ≤ s.size) : s.extract a b = ofL ((s.data.toList.drop a).take (b - a)) := by
  have hsz : s.data.size = s.size := rfl
  apply ByteArray.ext
  apply Array.ext'
  rw [ByteArray.data_extract, Array.toList_extract]
  simp [ofL, List.extract_eq_take_drop]
theorem l1Cut_l0 (s : ByteArray) (hs : s.size ≤ 1000000000) (e : Nat) : ∀ (k : Nat) (acc : List ByteArray) (a i : Nat), e < k → i + e = s.size → a ≤ i → acc.length ≤ i → spec_l1Cut.l0 k s 47 acc (a : Int) (i : Int) = some (acc ++ (spl ((s.data.toList.drop a).take (i - a)) (s.data.toList.drop i)).map ofL) := by
  have hsz : s.data.toList.length = s.size := by simp
  induction e with
  | zero =>
    intro k acc a i hk hi ha hl
    obtain ⟨k, rfl⟩ : ∃ m, k = m + 1 := ⟨k - 1, by omega⟩
    simp only [spec_l1Cut.l0]
    rw [if_neg (by omega), if_pos (by omega), if_pos (by omega), if_pos (by omega), Int.toNat_natCast, ext_ofL s a s.size (by omega), List.drop_eq_nil_of_le (by omega : s.data.toList.length ≤ i)]
    have ei : i = s.size := by omega
    simp only [spl, List.map_cons, List.map_nil]
    rw [ei]
  | succ e ih =>
    intro k acc a i hk hi ha hl
    obtain ⟨k, rfl⟩ : ∃ m, k = m + 1 := ⟨k - 1, by omega⟩
    have hi' : i < s.data.toList.length := by omega
    have hb' : bt s (i : Int) = (s.data.toList[i].toNat : Int) := bt_get s (i : Int) (by omega) (by omega)
    have hx : ((s.data.toList[i].toNat : Int) = 47) ↔ s.data.toList[i] = 47 := u8_eq _ 47 (by omega)
    have e1 : ((i : Int) + 1) = ((i + 1 : Nat) : Int) := by omega
    simp only [spec_l1Cut.l0]
    rw [if_pos (by omega), if_pos (by omega), hb', w64 (by omega), e1, List.drop_eq_getElem_cons hi']
    simp only [spl]
    by_cases h : s.data.toList[i] = 47
    · rw [if_pos (hx.2 h), if_pos h, if_pos (by omega), if_pos (by omega), if_pos (by omega), if_pos (by omega), Int.toNat_natCast, Int.toNat_natCast, ext_ofL s a i (by omega), ih k _ (i + 1) (i + 1) (by omega) (by omega) (by omega) (by simp; omega)]
      simp
    · rw [if_neg (fun y => h (hx.1 y)), if_neg h, ih k acc a (i + 1) (by omega) (by omega) (by omega) (by omega)]
      have e2 : (s.data.toList.drop a).take (i + 1 - a) = (s.data.toList.drop a).take (i - a) ++ [s.data.toList[i]] := by
        have e3 : i + 1 - a = (i - a) + 1 := by omega
        have e4 : (s.data.toList.drop a)[i - a]? = some s.data.toList[i] := by
          rw [List.getElem?_drop]
          have e5 : a + (i - a) = i := by omega
          rw [e5]
          exact List.getElem?_eq_getElem hi'
        rw [e3, List.take_add_one, e4]
        rfl
      rw [e2]
theorem l1Cut_ev (k : Nat) (s : ByteArray) (hs : s.size ≤ 1000000000) (hk : s.size < k) : spec_l1Cut.f k s 47 = some ((spl [] s.data.toList).map ofL) := by
  unfold spec_l1Cut.f
  have := l1Cut_l0 s hs s.size k [] 0 0 hk (by omega) (by omega) (by simp)
  simpa using this
theorem l1D_l0_tot (s : ByteArray) (hs : s.size ≤ 1000000000) (e : Nat) : ∀ (k : Nat) (x : Int) (i : Nat), e < k → i + e = s.size → ∃ n b, spec_l1Digits.l0 k s x (i : Int) = some (n, b) := by
  induction e with
  | zero =>
    intro k x i hk hi
    obtain ⟨k, rfl⟩ : ∃ m, k = m + 1 := ⟨k - 1, by omega⟩
    rw [spec_l1Digits.l0.eq_2, if_neg (by omega)]
    exact ⟨_, _, rfl⟩
  | succ e ih =>
    intro k x i hk hi
    obtain ⟨k, rfl⟩ : ∃ m, k = m + 1 := ⟨k - 1, by omega⟩
    have e1 : ((i : Int) + 1) = ((i + 1 : Nat) : Int) := by omega
    rw [spec_l1Digits.l0.eq_2, if_pos (by omega), if_pos (by omega), w64 (by omega : -9223372036854775808 ≤ (i : Int) + 1 ∧ _), e1]
    split
    · exact ⟨_, _, rfl⟩
    · split
      · exact ⟨_, _, rfl⟩
      · exact ih k _ (i + 1) (by omega) (by omega)
theorem l1D_j1_tot (s : ByteArray) (hs : s.size ≤ 1000000000) (k : Nat) (hk : s.size + 1 < k) (b : Bool) : ∃ n c, spec_l1Digits.j1 k s b = some (n, c) := by
  obtain ⟨k, rfl⟩ : ∃ m, k = m + 1 := ⟨k - 1, by omega⟩
  rw [spec_l1Digits.j1.eq_2]
  split
  · exact ⟨_, _, rfl⟩
  · exact l1D_l0_tot s hs s.size k 0 0 (by omega) (by omega)
theorem l1D_j0f_tot (s : ByteArray) (hs : s.size ≤ 1000000000) (k : Nat) (hk : s.size + 2 < k) : ∃ n c, spec_l1Digits.j0 k s false = some (n, c) := by
  obtain ⟨k, rfl⟩ : ∃ m, k = m + 1 := ⟨k - 1, by omega⟩
  rw [spec_l1Digits.j0.eq_2, if_neg (by simp), spec_l1In_ev, Option.bind_some]
  split
  · split
    · rw [if_pos (by omega)]
      exact l1D_j1_tot s hs k (by omega) _
    · exact l1D_j1_tot s hs k (by omega) _
  · exact l1D_j1_tot s hs k (by omega) _
theorem l1D_tot (m : Nat) (hm : m ≤ 1000000000) : ∀ (s : ByteArray) (k : Nat), s.size ≤ m → 3 * m + 20 ≤ k → ∃ n b, spec_l1Digits.f k s = some (n, b) := by
  induction m with
  | zero =>
    intro s k hs hk
    obtain ⟨k, rfl⟩ : ∃ j, k = j + 1 := ⟨k - 1, by omega⟩
    rw [spec_l1Digits.f.eq_2, if_neg (by omega)]
    exact l1D_j0f_tot s (by omega) k (by omega)
  | succ m ih =>
    intro s k hs hk
    obtain ⟨k, rfl⟩ : ∃ j, k = j + 2 := ⟨k - 2, by omega⟩
    rw [spec_l1Digits.f.eq_2]
    split
    · rw [if_pos (by omega)]
      cases hb : (bt s 0 == 45) with
      | false => exact l1D_j0f_tot s (by omega) (k + 1) (by omega)
      | true =>
        have he : (s.extract 1 s.size).size ≤ m := by rw [ByteArray.size_extract]; omega
        obtain ⟨n, b, e⟩ := ih (by omega) (s.extract 1 s.size) k he (by omega)
        rw [spec_l1Digits.j0.eq_2, if_pos rfl, if_pos (by omega), e, Option.bind_some]
        split
        · exact ⟨_, _, rfl⟩
        · exact ⟨_, _, rfl⟩
    · exact l1D_j0f_tot s (by omega) (k + 1) (by omega)
theorem l1D_l0_val (l : List UInt8) (hd : digs l) (hl : l.length ≤ 1000) (hv : valD 0 l ≤ 100000000) (e : Nat) : ∀ (k i : Nat), e < k → i + e = l.length → spec_l1Digits.l0 k (ofL l) ((valD 0 (l.take i) : Nat) : Int) (i : Int) = some (((valD 0 l : Nat) : Int), true) := by
  induction e with
  | zero =>
    intro k i hk hi
    obtain ⟨k, rfl⟩ : ∃ m, k = m + 1 := ⟨k - 1, by omega⟩
    rw [spec_l1Digits.l0.eq_2, ofL_size, if_neg (by omega), List.take_of_length_le (by omega)]
  | succ e ih =>
    intro k i hk hi
    obtain ⟨k, rfl⟩ : ∃ m, k = m + 1 := ⟨k - 1, by omega⟩
    have hi' : i < l.length := by omega
    have e1 : ((i : Int) + 1) = ((i + 1 : Nat) : Int) := by omega
    have hb : bt (ofL l) (i : Int) = (l[i].toNat : Int) := by
      have e := bt_get (ofL l) (i : Int) (by omega) (by rw [ofL_size]; omega)
      rw [e]
      simp [ofL]
    have hc := hd l[i] (List.getElem_mem hi')
    have e2 : l.take (i + 1) = l.take i ++ [l[i]] := by
      rw [List.take_add_one, List.getElem?_eq_getElem hi']
      rfl
    have e3 : valD 0 (l.take (i + 1)) = valD 0 (l.take i) * 10 + (l[i].toNat - 48) := by rw [e2, valD_snoc]
    have e4 : valD 0 (l.take (i + 1)) ≤ valD 0 l := by
      have e5 : valD 0 l = valD (valD 0 (l.take (i + 1))) (l.drop (i + 1)) := by rw [← valD_app, List.take_append_drop]
      rw [e5]
      exact valD_ge _ _
    rw [spec_l1Digits.l0.eq_2, ofL_size, if_pos (by omega), if_pos (by omega), hb, if_neg (by omega), if_neg (by omega), w64 (by omega : -9223372036854775808 ≤ (i : Int) + 1 ∧ _), e1]
    have e6 : wrap64 (wrap64 (10 * ((valD 0 (l.take i) : Nat) : Int)) + ((l[i].toNat : Int) - 48) % 256) = ((valD 0 (l.take (i + 1)) : Nat) : Int) := by
      rw [w64 (by omega : -9223372036854775808 ≤ 10 * ((valD 0 (l.take i) : Nat) : Int) ∧ _), w64 (by omega)]
      omega
    rw [e6]
    exact ih k (i + 1) (by omega) (by omega)
theorem l1D_dd (u : Nat) (hu : u ≤ 1000000) (k : Nat) (hk : 20 ≤ k) : spec_l1Digits.f k (ofL (Lib.decDigits u)) = some ((u : Int), true) := by
  obtain ⟨k, rfl⟩ : ∃ m, k = m + 3 := ⟨k - 3, by omega⟩
  have h1 := dd_pos u
  have h7 := dd_len7 u hu
  have hd := dd_dig u
  have hv := dd_val u
  have hfin : spec_l1Digits.l0 k (ofL (Lib.decDigits u)) 0 0 = some ((u : Int), true) := by
    have := l1D_l0_val (Lib.decDigits u) hd (by omega) (by omega) (Lib.decDigits u).length k 0 (by omega) (by omega)
    rw [hv] at this
    exact this
  have hin : spec_l1In.f ((ofL (Lib.decDigits u)).size : Int) 1 7 = some true := by
    rw [spec_l1In_ev, ofL_size, decide_eq_true (by omega)]
  have hb0 : ∀ n : Nat, n < 256 → (∀ c r, Lib.decDigits u = c :: r → c.toNat ≠ n) → (bt (ofL (Lib.decDigits u)) 0 == (n : Int)) = false := by
    intro n hn hne
    obtain ⟨c, r, hc⟩ : ∃ c r, Lib.decDigits u = c :: r := by
      cases hc : Lib.decDigits u with
      | nil => rw [hc] at h1; simp at h1
      | cons c r => exact ⟨c, r, rfl⟩
    have := hne c r hc
    rw [hc]
    have e := bt_get (ofL (c :: r)) 0 (by omega) (by rw [ofL_size]; simp)
    rw [e, beq_eq_false_iff_ne]
    simp [ofL]
    omega
  have h45 := hb0 45 (by omega) (fun c r e => by have := hd c (by rw [e]; exact List.mem_cons_self ..); omega)
  have hj0 : spec_l1Digits.j0 (k + 2) (ofL (Lib.decDigits u)) false = some ((u : Int), true) := by
    rw [spec_l1Digits.j0.eq_2, if_neg (by simp), hin, Option.bind_some, if_pos rfl]
    by_cases hl : (Lib.decDigits u).length > 1
    · have h48 := hb0 48 (by omega) (fun c r e => by
        have hu1 : 1 ≤ u := by
          rcases Nat.eq_zero_or_pos u with h0 | h0
          · rw [h0, Lib.decDigits_one (by omega)] at hl; simp at hl
          · exact h0
        obtain ⟨c', r', e', hc'⟩ := dd_head u hu1
        rw [e'] at e
        injection e with e1 e2
        rw [← e1]; exact hc')
      have h48' : (bt (ofL (Lib.decDigits u)) 0 == 48) = false := h48
      rw [if_pos (by rw [ofL_size]; omega), if_pos (by rw [ofL_size]; omega), h48', spec_l1Digits.j1.eq_2, if_neg (by simp)]
      exact hfin
    · rw [if_neg (by rw [ofL_size]; omega), spec_l1Digits.j1.eq_2, if_neg (by simp)]
      exact hfin
  rw [spec_l1Digits.f.eq_2]
  split
  · have h45' : (bt (ofL (Lib.decDigits u)) 0 == 45) = false := h45
    rw [if_pos (by rw [ofL_size]; omega), h45']
    exact hj0
  · exact hj0
theorem l1D_itoa (n : Int) (hn : -1000000 ≤ n ∧ n ≤ 1000000) (k : Nat) (hk : 40 ≤ k) : spec_l1Digits.f k (ofL (Lib.itoa n)) = some (n, true) := by
  by_cases h0 : n < 0
  · obtain ⟨u, rfl⟩ : ∃ u : Nat, n = -(u : Int) := ⟨n.natAbs, by omega⟩
    obtain ⟨k, rfl⟩ : ∃ m, k = m + 2 := ⟨k - 2, by omega⟩
    have h1 := dd_pos u
    have hl := dd_len7 u (by omega)
    rw [Lib.itoa_neg u (by omega)]
    have hb : (bt (ofL (45 :: Lib.decDigits u)) 0 == 45) = true := by
      have e := bt_get (ofL (45 :: Lib.decDigits u)) 0 (by omega) (by rw [ofL_size]; simp)
      rw [e]
      simp [ofL]
    have hx : (ofL (45 :: Lib.decDigits u)).extract 1 (ofL (45 :: Lib.decDigits u)).size = ofL (Lib.decDigits u) := by
      rw [ofL_size]
      apply ByteArray.ext
      simp [ofL]
    rw [spec_l1Digits.f.eq_2, if_pos (by rw [ofL_size, List.length_cons]; omega), if_pos (by rw [ofL_size, List.length_cons]; omega), hb, spec_l1Digits.j0.eq_2, if_pos rfl, if_pos (by rw [ofL_size, List.length_cons]; omega), hx, l1D_dd u (by omega) k (by omega), Option.bind_some]
    dsimp only
    rw [if_pos rfl, w64 (by omega), decide_eq_true (by omega)]
  · obtain ⟨u, rfl⟩ : ∃ u : Nat, n = (u : Int) := ⟨n.toNat, by omega⟩
    rw [Lib.itoa_nonneg]
    exact l1D_dd u (by omega) k (by omega)
theorem spec_RF (k : Nat) (s : ByteArray) (hs : s.size ≤ 1000000000) (hk : 3 * s.size + 2000100 ≤ k) : ∃ r, spec_ReadFraction.f k s = some r ∧ RFok s r ∧ (∀ u d, Fr u d → frT u d = s.data.toList → r = (u, d, true)) := by
  have hsz : s.data.toList.length = s.size := by simp
  have hle := spl_len s.data.toList []
  have hfw : ∀ u d, Fr u d → frT u d = s.data.toList → (spl [] s.data.toList = if d = 1 then [Lib.itoa u] else [Lib.itoa u, Lib.itoa d]) := by
    intro u d hF ht
    rw [← ht]
    unfold frT
    by_cases h1 : d = 1
    · rw [if_pos h1, if_pos h1, spl_none _ (itoa_no u)]; simp
    · rw [if_neg h1, if_neg h1, spl_at _ _ (itoa_no u) (itoa_no d)]; simp
  have fin : ∀ (x y : Int), ∃ r, ((spec_FractionText.f k x y).bind fun t141 => (if t141.toList = s.toList then (some (x, y, true)) else (some (0, 0, false)))) = some r ∧ (s.size ≠ 0 → RFok s r) ∧ (Fr x y → frT x y = s.data.toList → r = (x, y, true)) := by
    intro x y
    rw [spec_FractionText_ev k (by omega) x y, Option.bind_some, toList_data s]
    by_cases h : Fr x y
    · rw [if_pos h, toList_ofL]
      by_cases h2 : frT x y = s.data.toList
      · rw [if_pos h2]; exact ⟨_, rfl, fun _ => Or.inl ⟨rfl, h, h2⟩, fun _ _ => rfl⟩
      · rw [if_neg h2]; exact ⟨_, rfl, fun _ => Or.inr rfl, fun _ h3 => absurd h3 h2⟩
    · rw [if_neg h, toList_ofL]
      by_cases h2 : [] = s.data.toList
      · rw [if_pos h2]
        refine ⟨_, rfl, fun h3 => ?_, fun h3 => absurd h3 h⟩
        rw [← h2] at hsz
        exact absurd hsz.symm (by simpa using h3)
      · rw [if_neg h2]; exact ⟨_, rfl, fun _ => Or.inr rfl, fun h3 => absurd h3 h⟩
  have h0 : s.size = 0 → spec_l1Digits.f k (ofL []) = some (0, false) ∧ spl [] s.data.toList = [[]] := by
    intro h0
    have e : s.data.toList = [] := List.length_eq_zero_iff.1 (by omega)
    refine ⟨?_, by rw [e]; rfl⟩
    obtain ⟨j, rfl⟩ : ∃ m, k = m + 3 := ⟨k - 3, by omega⟩
    rw [spec_l1Digits.f.eq_2, if_neg (by rw [ofL_size]; simp), spec_l1Digits.j0.eq_2, if_neg (by simp), spec_l1In_ev, Option.bind_some, decide_eq_false (by rw [ofL_size]; simp), if_neg (by simp), spec_l1Digits.j1.eq_2, if_pos rfl]
  unfold spec_ReadFraction.f
  rw [l1Cut_ev k s hs (by omega), Option.bind_some]
  obtain ⟨x, r, ex⟩ := spl_cons s.data.toList []
  have hx := hle x (by rw [ex]; exact List.mem_cons_self ..)
  simp only [List.length_nil, Nat.zero_add] at hx
  have eM : (spl [] s.data.toList).map ofL = ofL x :: r.map ofL := by rw [ex]; rfl
  have eR : rdOf ByteArray.empty (ofL x :: r.map ofL) 0 = ofL x := rfl
  rw [eM, if_pos (by simp only [List.length_cons]; omega), eR]
  obtain ⟨n, b, e1⟩ := l1D_tot s.size hs (ofL x) k (by rw [ofL_size]; omega) (by omega)
  rw [e1, Option.bind_some]
  dsimp only
  cases r with
  | nil =>
    rw [if_neg (by simp)]
    cases b with
    | false =>
      rw [if_neg (by simp)]
      refine ⟨_, rfl, Or.inr rfl, fun u d hF ht => ?_⟩
      have hu : -1000000 ≤ u ∧ u ≤ 1000000 := ⟨hF.1, hF.2.1⟩
      have e := hfw u d hF ht
      rw [ex] at e
      by_cases h1 : d = 1
      · rw [if_pos h1] at e
        injection e with e2 e3
        rw [e2, l1D_itoa u hu k (by omega)] at e1
        cases e1
      · rw [if_neg h1] at e
        simp at e
    | true =>
      have hne : s.size ≠ 0 := by
        intro hz
        obtain ⟨q1, q2⟩ := h0 hz
        rw [ex] at q2
        injection q2 with q3 q4
        rw [q3, q1] at e1
        cases e1
      rw [if_pos rfl, if_neg (by simp)]
      obtain ⟨r, er, hr1, hr2⟩ := fin n 1
      refine ⟨r, er, hr1 hne, fun u d hF ht => ?_⟩
      have hu : -1000000 ≤ u ∧ u ≤ 1000000 := ⟨hF.1, hF.2.1⟩
      have e := hfw u d hF ht
      rw [ex] at e
      by_cases h1 : d = 1
      · subst h1
        rw [if_pos rfl] at e
        injection e with e2 e3
        rw [e2, l1D_itoa u hu k (by omega)] at e1
        have e4 := Option.some.inj e1
        simp only [Prod.mk.injEq] at e4
        have e5 : n = u := e4.1.symm
        subst e5
        exact hr2 hF ht
      · rw [if_neg h1] at e
        simp at e
  | cons y r =>
    have hy := hle y (by rw [ex]; simp)
    simp only [List.length_nil, Nat.zero_add] at hy
    cases r with
    | nil =>
      have eR2 : rdOf ByteArray.empty (ofL x :: ([y] : List (List UInt8)).map ofL) 1 = ofL y := rfl
      rw [if_pos (by simp), if_pos (by simp), eR2]
      obtain ⟨n2, b2, e12⟩ := l1D_tot s.size hs (ofL y) k (by rw [ofL_size]; omega) (by omega)
      rw [e12, Option.bind_some]
      dsimp only
      have key : ∀ u d, Fr u d → frT u d = s.data.toList → n = u ∧ b = true ∧ n2 = d ∧ b2 = true := by
        intro u d hF ht
        have hu : -1000000 ≤ u ∧ u ≤ 1000000 := ⟨hF.1, hF.2.1⟩
        have hd : -1000000 ≤ d ∧ d ≤ 1000000 := by have := hF.2.2.1; have := hF.2.2.2.1; omega
        have e := hfw u d hF ht
        rw [ex] at e
        by_cases h1 : d = 1
        · rw [if_pos h1] at e
          simp at e
        · rw [if_neg h1] at e
          simp only [List.cons.injEq, and_true] at e
          rw [e.1, l1D_itoa u hu k (by omega)] at e1
          rw [e.2, l1D_itoa d hd k (by omega)] at e12
          have e4 := Option.some.inj e1
          have e5 := Option.some.inj e12
          simp only [Prod.mk.injEq] at e4 e5
          exact ⟨e4.1.symm, e4.2.symm, e5.1.symm, e5.2.symm⟩
      cases b with
      | false =>
        rw [if_neg (by simp)]
        refine ⟨_, rfl, Or.inr rfl, fun u d hF ht => ?_⟩
        have := (key u d hF ht).2.1
        cases this
      | true =>
        rw [if_pos rfl]
        cases b2 with
        | false =>
          rw [if_neg (by simp)]
          refine ⟨_, rfl, Or.inr rfl, fun u d hF ht => ?_⟩
          have := (key u d hF ht).2.2.2
          cases this
        | true =>
          rw [if_pos rfl, if_neg (by simp)]
          have hne : s.size ≠ 0 := by
            intro hz
            obtain ⟨q1, q2⟩ := h0 hz
            rw [ex] at q2
            simp at q2
          obtain ⟨r, er, hr1, hr2⟩ := fin n n2
          refine ⟨r, er, hr1 hne, fun u d hF ht => ?_⟩
          obtain ⟨k1, _, k2, _⟩ := key u d hF ht
          subst k1
          subst k2
          exact hr2 hF ht
    | cons z r =>
      have key : ∀ u d, Fr u d → frT u d = s.data.toList → False := by
        intro u d hF ht
        have e := hfw u d hF ht
        rw [ex] at e
        by_cases h1 : d = 1
        · rw [if_pos h1] at e
          simp at e
        · rw [if_neg h1] at e
          simp at e
      rw [if_neg (by simp; omega)]
      cases b with
      | false =>
        rw [if_neg (by simp)]
        exact ⟨_, rfl, Or.inr rfl, fun u d hF ht => (key u d hF ht).elim⟩
      | true =>
        rw [if_pos rfl, if_pos (by simp; omega)]
        exact ⟨_, rfl, Or.inr rfl, fun u d hF ht => (key u d hF ht).elim⟩
theorem RF_both (k : Nat) (s : ByteArray) (hs : s.size ≤ 300000000) (hk : 3 * s.size + 2000100 ≤ k) : ∃ r, spec_ReadFraction.f k s = some r ∧ impl_ReadFraction.f k s = some r ∧ RFok s r ∧ (∀ u d, Fr u d → frT u d = s.data.toList → r = (u, d, true)) := by
  obtain ⟨r1, e1, o1, f1⟩ := spec_RF k s (by omega) hk
  obtain ⟨r2, e2, o2, f2⟩ := impl_RF k (by omega) s (by omega)
  have e : r2 = r1 := by
    rcases o1 with ⟨h1, h2, h3⟩ | h
    · rw [f2 _ _ h2 h3]
      obtain ⟨a, b, c⟩ := r1
      simp only at h1
      rw [h1]
    · rcases o2 with ⟨h1, h2, h3⟩ | h'
      · rw [f1 _ _ h2 h3]
        obtain ⟨a, b, c⟩ := r2
        simp only at h1
        rw [h1]
      · rw [h, h']
  rw [e] at e2
  exact ⟨r1, e1, e2, o1, f1⟩
theorem draw_read (k : Nat) (hk : 3000000 ≤ k) (l : List Int) (hw : ∀ x ∈ l, (Lit.int .u8 x).wf = true) : ∃ s, spec_DrawReadFraction.f k l = some s ∧ s.size ≤ 1000 := by
  obtain ⟨m, e1, hm⟩ := open_ev l hw
  unfold spec_DrawReadFraction.f
  rw [e1]
  simp only [Option.bind_some]
  obtain ⟨u, d, p', e2, hp1, hp2, _, _⟩ := fraction_ev k (by omega) m hm 0 0 (by omega) (by omega)
  rw [e2]
  simp only [Option.bind_some]
  rw [spec_FractionText_ev k (by omega), Option.bind_some]
  have ht : (if Fr u d then ofL (frT u d) else ofL []).size ≤ 50 := by
    split
    · rename_i hF
      have hu' : -1000000 ≤ u ∧ u ≤ 1000000 := ⟨hF.1, hF.2.1⟩
      have hd' : -1000000 ≤ d ∧ d ≤ 1000000 := by have := hF.2.2.1; have := hF.2.2.2.1; omega
      rw [ofL_size]
      exact frT_len u d hu' hd'
    · rw [ofL_size]; simp
  generalize (if Fr u d then ofL (frT u d) else ofL []) = t at ht ⊢
  obtain ⟨r, e3, _⟩ := pick_ev k (by omega) m hm p' 3 (by omega) (by omega)
  rw [e3]
  simp only [Option.bind_some]
  have no : ∀ p : Int, ∃ s, spec_DrawReadFraction.j0 k t false m p = some s ∧ s.size ≤ 1000 := by
    intro p
    obtain ⟨k, rfl⟩ : ∃ j, k = j + 1 := ⟨k - 1, by omega⟩
    simp only [spec_DrawReadFraction.j0]
    exact ⟨t, if_neg (by simp), by omega⟩
  by_cases hr : r = 0
  · rw [if_pos hr]
    by_cases hz : (t.size : Int) > 0
    · rw [decide_eq_true hz]
      obtain ⟨k, rfl⟩ : ∃ j, k = j + 1 := ⟨k - 1, by omega⟩
      simp only [spec_DrawReadFraction.j0]
      obtain ⟨q, e4, h4, h5, _⟩ := pick_ev k (by omega) m hm (p' + 1) (t.size : Int) (by omega) (by omega)
      have h6 := h5 (by omega)
      obtain ⟨q2, e5, h7, h8, _⟩ := pick_ev k (by omega) m hm (p' + 1 + 1) 5 (by omega) (by omega)
      have h9 := h8 (by omega)
      have hs5 := rdOf_sz [(⟨#[]⟩ : ByteArray), (⟨#[48]⟩ : ByteArray), (⟨#[47]⟩ : ByteArray), (⟨#[45]⟩ : ByteArray), (⟨#[52]⟩ : ByteArray)] (by decide) q2
      rw [if_pos trivial, e4]
      simp only [Option.bind_some]
      rw [if_pos h4, if_pos (by omega), e5]
      simp only [Option.bind_some]
      have s1 : (t.extract 0 q.toNat).size ≤ 50 := by rw [ByteArray.size_extract]; omega
      have s2 : (t.extract (wrap64 (q + 1)).toNat t.size).size ≤ 50 := by rw [ByteArray.size_extract]; omega
      generalize rdOf ByteArray.empty [(⟨#[]⟩ : ByteArray), (⟨#[48]⟩ : ByteArray), (⟨#[47]⟩ : ByteArray), (⟨#[45]⟩ : ByteArray), (⟨#[52]⟩ : ByteArray)] q2 = z at hs5 ⊢
      have w1 : wrap64 (q + 1) = q + 1 := w64 (by omega)
      rw [if_pos h7, if_pos (by simp only [List.length_cons, List.length_nil]; omega), if_pos (by omega), if_pos (by omega), if_pos (by omega), if_pos (by rw [ByteArray.size_append]; omega)]
      exact ⟨_, rfl, by rw [ByteArray.size_append, ByteArray.size_append]; omega⟩
    · rw [decide_eq_false hz]
      exact no _
  · rw [if_neg hr]
    exact no _
theorem FnReadFraction (l0 : List Int) (hw : ∀ x ∈ l0, (Lit.int .u8 x).wf = true) : ∃ k, laws_FnReadFraction.f k l0 = some true := by
  refine ⟨6000001, ?_⟩
  unfold laws_FnReadFraction.f
  by_cases h : (l0.length : Int) > 1048576
  · rw [if_pos h]
  · rw [if_neg h]
    obtain ⟨s, es, hs⟩ := draw_read 6000001 (by omega) l0 hw
    obtain ⟨r, e1, e2, ho, _⟩ := RF_both 6000001 s (by omega) (by omega)
    rw [es, Option.bind_some, e2, Option.bind_some, e1, Option.bind_some]
    have q1 : (!(r.1 == r.1) || (!(r.2.1 == r.2.1))) = false := by simp
    rw [q1, if_neg (by simp)]
    rw [show ∀ x : Bool, (x != x) = false from fun x => by cases x <;> rfl]
    rw [laws_FnReadFraction.j0.eq_2, if_neg (by simp)]
    rcases ho with ⟨h1, hF, h3⟩ | h0
    · obtain ⟨r', e3, ho', _⟩ := impl_RF 6000000 (by omega) (s ++ (⟨#[47]⟩ : ByteArray)) (by rw [ByteArray.size_append]; show _ + 1 ≤ _; omega)
      rw [if_pos h1, if_pos (by omega), e3, Option.bind_some, impl_FractionText_ev _ (by omega), if_pos hF, Option.bind_some, toList_ofL, toList_data s, if_pos h3]
      have hn : r'.2.2 = false := by
        rcases ho' with ⟨g1, g2, g3⟩ | g0
        · obtain ⟨l, c, el, hc⟩ := frT_last r'.1 r'.2.1
          have e5 : (s ++ (⟨#[47]⟩ : ByteArray)).data.toList = s.data.toList ++ [47] := by simp
          rw [e5, el] at g3
          have e6 := congrArg List.getLast? g3
          simp at e6
          exact absurd e6 hc
        · rw [g0]
      rw [hn]; rfl
    · rw [h0]
      dsimp only
      rw [if_neg (by simp), if_pos (by simp), alive_ev _ (by omega)]
      rfl
end Go.Proofs.YtebihngdlokhfaaDoor.Pure
