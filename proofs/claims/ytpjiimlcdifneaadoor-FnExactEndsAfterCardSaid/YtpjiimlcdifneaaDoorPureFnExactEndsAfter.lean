/- What the walked law FnExactEndsAfter computes, answers true. -/
import Derived.Test.YtpjiimlcdifneaaDoorPFnExactEndsAfterx3
import Derived.OpenShut
namespace Go.Proofs.YtpjiimlcdifneaaDoor.Pure
open Go.RowKit Go.Proofs.YtpjiimlcdifneaaDoor.PFnExactEndsAfter Go.Proofs.YtpjiimlcdifneaaDoorW.PrintWords Go.Proofs.YtpjiimlcdifneaaDoorW.PrintLast Go.Proofs.YtpjiimlcdifneaaDoorW.PrintMore
set_option linter.unusedVariables false
set_option linter.unusedSimpArgs false
theorem st {P : Prop} [Decidable P] (h : P) : some true = some (decide P) := by simp [h]
theorem sf {P : Prop} [Decidable P] (h : ¬P) : some false = some (decide P) := by simp [h]
theorem sd {P Q : Prop} [Decidable P] [Decidable Q] (h : P ↔ Q) : some (decide P) = some (decide Q) := by simp [h]
theorem w64 {n : Int} (h : -9223372036854775808 ≤ n ∧ n ≤ 9223372036854775807) : wrap64 n = n := by unfold wrap64; omega
theorem bt_get (s : ByteArray) (i : Int) (h0 : 0 ≤ i) (h : i.toNat < s.size) : bt s i = (s.data.toList[i.toNat]'(by simpa using h)).toNat := by
  unfold bt
  rw [dif_pos h]
  rfl
def mv (c : UInt8) : Bool := c == 84 || c == 116 || c == 82
def dok (l : List UInt8) : Bool := l.all mv
theorem mv_iff (c : UInt8) : mv c = true ↔ ((c.toNat : Int) = 84 ∨ (c.toNat : Int) = 116 ∨ (c.toNat : Int) = 82) := by
  unfold mv
  simp only [Bool.or_eq_true, beq_iff_eq]
  have e1 : (84 : UInt8).toNat = 84 := rfl
  have e2 : (116 : UInt8).toNat = 116 := rfl
  have e3 : (82 : UInt8).toNat = 82 := rfl
  rw [← UInt8.toNat_inj, ← UInt8.toNat_inj, ← UInt8.toNat_inj, e1, e2, e3]
  omega
def Dn (s : ByteArray) : Prop := dok s.data.toList = true ∧ s.size ≤ 40
instance (s : ByteArray) : Decidable (Dn s) := by unfold Dn; exact inferInstance
theorem u8_eq (c : UInt8) (n : Nat) (hn : n < 256) : ((c.toNat : Int) = (n : Int)) ↔ c = UInt8.ofNat n := by
  constructor
  · intro h
    have : c.toNat = n := by omega
    rw [← UInt8.toNat_inj, this]
    simp
    omega
  · intro h
    rw [h]
    simp
    omega
theorem laws_eqIntS_l0 (a b : List Int) (hl : a.length = b.length) (hn : a.length ≤ 1048576) (d : Nat) : ∀ (k : Nat) (i : Int), 0 ≤ i → i + d = a.length → d < k → laws_eqIntS.l0 k a b i = some (decide (a.drop i.toNat = b.drop i.toNat)) := by
  induction d with
  | zero =>
    intro k i h0 hd hk
    obtain ⟨k, rfl⟩ : ∃ m, k = m + 1 := ⟨k - 1, by omega⟩
    simp only [laws_eqIntS.l0]
    rw [if_neg (by omega)]
    refine st ?_
    rw [List.drop_eq_nil_of_le (by omega), List.drop_eq_nil_of_le (by omega)]
  | succ d ih =>
    intro k i h0 hd hk
    obtain ⟨k, rfl⟩ : ∃ m, k = m + 1 := ⟨k - 1, by omega⟩
    simp only [laws_eqIntS.l0]
    have h1 : i.toNat < a.length := by omega
    have h2 : i.toNat < b.length := by omega
    rw [if_pos (by omega), if_pos h0, if_pos (by omega), w64 (by omega), ih k (i + 1) (by omega) (by omega) (by omega)]
    have e : (i + 1).toNat = i.toNat + 1 := by omega
    have ra : rd a i = a[i.toNat] := by unfold rd; simp [h1]
    have rb : rd b i = b[i.toNat] := by unfold rd; simp [h2]
    rw [e, ra, rb, List.drop_eq_getElem_cons h1, List.drop_eq_getElem_cons h2]
    by_cases hc : a[i.toNat] = b[i.toNat]
    · rw [if_pos hc]; exact sd (by rw [List.cons.injEq]; exact ⟨fun h => ⟨hc, h⟩, And.right⟩)
    · rw [if_neg hc]; exact sf (by rw [List.cons.injEq]; exact fun h => hc h.1)
theorem laws_eqIntS_ev (k : Nat) (a b : List Int) (hk : a.length < k) (hn : a.length ≤ 1048576) : laws_eqIntS.f k a b = some (decide (a = b)) := by
  unfold laws_eqIntS.f
  by_cases h : a.length = b.length
  · rw [if_pos (by omega), laws_eqIntS_l0 a b h hn a.length k 0 (by omega) (by omega) hk]; simp
  · rw [if_neg (by omega)]; exact sf (fun e => h (by rw [e]))
theorem spec_DanceOk_l0 (s : ByteArray) (hn : s.size ≤ 1000000000) (d : Nat) : ∀ (k : Nat) (i : Int), 0 ≤ i → i + d = s.size → d < k → spec_DanceOk.l0 k s i = some (decide (dok (s.data.toList.drop i.toNat) = true ∧ s.size ≤ 40)) := by
  have hsz : s.data.toList.length = s.size := by simp
  induction d with
  | zero =>
    intro k i h0 hd hk
    obtain ⟨k, rfl⟩ : ∃ m, k = m + 1 := ⟨k - 1, by omega⟩
    simp only [spec_DanceOk.l0]
    rw [if_neg (by omega), List.drop_eq_nil_of_le (by omega)]
    exact sd ⟨fun x => ⟨rfl, by omega⟩, fun x => by omega⟩
  | succ d ih =>
    intro k i h0 hd hk
    obtain ⟨k, rfl⟩ : ∃ m, k = m + 1 := ⟨k - 1, by omega⟩
    simp only [spec_DanceOk.l0]
    have h1 : i.toNat < s.size := by omega
    have h2 : i.toNat < s.data.toList.length := by omega
    rw [if_pos (by omega), if_pos h0, w64 (by omega), ih k (i + 1) (by omega) (by omega) (by omega)]
    have e : (i + 1).toNat = i.toNat + 1 := by omega
    rw [e, bt_get s i h0 h1, List.drop_eq_getElem_cons h2]
    generalize s.data.toList[i.toNat] = c
    have hm := mv_iff c
    have hc : dok (c :: List.drop (i.toNat + 1) s.data.toList) = (mv c && dok (List.drop (i.toNat + 1) s.data.toList)) := rfl
    rw [hc]
    by_cases c1 : (c.toNat : Int) = 84
    · rw [if_pos c1]; have : mv c = true := hm.2 (Or.inl c1); rw [this, Bool.true_and]
    · rw [if_neg c1]
      by_cases c2 : (c.toNat : Int) = 116
      · rw [if_pos c2]; have : mv c = true := hm.2 (Or.inr (Or.inl c2)); rw [this, Bool.true_and]
      · rw [if_neg c2]
        by_cases c3 : (c.toNat : Int) = 82
        · rw [if_pos c3]; have : mv c = true := hm.2 (Or.inr (Or.inr c3)); rw [this, Bool.true_and]
        · rw [if_neg c3]
          have : mv c = false := by
            rcases Bool.eq_false_or_eq_true (mv c) with h | h
            · have := hm.1 h; omega
            · exact h
          rw [this, Bool.false_and]
          exact sf (by simp)
theorem spec_DanceOk_ev (k : Nat) (s : ByteArray) (hk : s.size < k) (hn : s.size ≤ 1000000000) : spec_DanceOk.f k s = some (decide (Dn s)) := by
  unfold spec_DanceOk.f
  rw [spec_DanceOk_l0 s hn s.size k 0 (by omega) (by omega) hk]
  rfl
def upFrom : Nat → Int → List Int
  | 0, _ => []
  | n + 1, a => a :: upFrom n (a + 1)
theorem upFrom_len (n : Nat) : ∀ a, (upFrom n a).length = n := by
  induction n with
  | zero => intro a; rfl
  | succ n ih => intro a; simp [upFrom, ih]
theorem upFrom_get (n : Nat) : ∀ (a : Int) (j : Nat) (h : j < (upFrom n a).length), (upFrom n a)[j] = a + j := by
  induction n with
  | zero => intro a j h; simp [upFrom] at h
  | succ n ih =>
    intro a j h
    cases j with
    | zero => simp [upFrom]
    | succ j =>
      simp only [upFrom, List.getElem_cons_succ]
      rw [ih]
      omega
theorem markIntS_l0 (n : Nat) (hn : n ≤ 1048576) (a : Int) (ha : 0 ≤ a ∧ a ≤ 1000000) (d : Nat) : ∀ (k : Nat) (x : List Int) (i : Int), 0 ≤ i → i + d = n → d < k → x.length = n → (∀ j : Nat, (h : j < x.length) → (j : Int) < i → x[j] = a + j) → laws_markIntS.l0 k x (a + i) i = some (a + n, upFrom n a) := by
  induction d with
  | zero =>
    intro k x i h0 hd hk hl hj
    obtain ⟨k, rfl⟩ : ∃ m, k = m + 1 := ⟨k - 1, by omega⟩
    simp only [laws_markIntS.l0]
    rw [if_neg (by omega)]
    have e : x = upFrom n a := by
      apply List.ext_getElem (by rw [upFrom_len, hl])
      intro j h1 h2
      rw [hj j h1 (by omega), upFrom_get]
    rw [e]
    congr 2
    omega
  | succ d ih =>
    intro k x i h0 hd hk hl hj
    obtain ⟨k, rfl⟩ : ∃ m, k = m + 1 := ⟨k - 1, by omega⟩
    simp only [laws_markIntS.l0]
    rw [if_pos (by omega), if_pos h0, w64 (by omega), w64 (by omega)]
    have e : a + i + 1 = a + (i + 1) := by omega
    rw [e]
    refine ih k _ (i + 1) (by omega) (by omega) (by omega) (by simpa using hl) ?_
    intro j h hj'
    by_cases ej : j = i.toNat
    · subst ej
      rw [List.getElem_set_self]
      omega
    · rw [List.getElem_set_ne (by omega)]
      exact hj j (by simpa using h) (by omega)
theorem markIntS_ev (k : Nat) (x : List Int) (hk : x.length < k) (hn : x.length ≤ 1048576) : laws_markIntS.f k x 1 = some (1 + (x.length : Int), upFrom x.length 1) := by
  unfold laws_markIntS.f
  have := markIntS_l0 x.length hn 1 (by omega) x.length k x 0 (by omega) (by omega) hk rfl (by intro j h hj; omega)
  rw [Int.add_zero] at this
  exact this
theorem heldIntS_l0 (n : Nat) (hn : n ≤ 1048576) (a : Int) (ha : 0 ≤ a ∧ a ≤ 1000000) (d : Nat) : ∀ (k : Nat) (i : Int), 0 ≤ i → i + d = n → d < k → laws_heldIntS.l0 k (upFrom n a) (a + i) i = some (a + n) := by
  have hl := upFrom_len n a
  induction d with
  | zero =>
    intro k i h0 hd hk
    obtain ⟨k, rfl⟩ : ∃ m, k = m + 1 := ⟨k - 1, by omega⟩
    simp only [laws_heldIntS.l0]
    rw [if_neg (by omega)]
    congr 1
    omega
  | succ d ih =>
    intro k i h0 hd hk
    obtain ⟨k, rfl⟩ : ∃ m, k = m + 1 := ⟨k - 1, by omega⟩
    simp only [laws_heldIntS.l0]
    have h1 : i.toNat < (upFrom n a).length := by omega
    have ra : rd (upFrom n a) i = a + i := by
      unfold rd
      have : (upFrom n a).getD i.toNat 0 = (upFrom n a)[i.toNat] := by simp [h1]
      rw [this, upFrom_get]
      omega
    rw [if_pos (by omega), if_pos h0, if_pos ra, w64 (by omega), w64 (by omega)]
    have e : a + i + 1 = a + (i + 1) := by omega
    rw [e]
    exact ih k (i + 1) (by omega) (by omega) (by omega)
theorem heldIntS_ev (k n : Nat) (hk : n < k) (hn : n ≤ 1048576) : laws_heldIntS.f k (upFrom n 1) 1 = some (1 + (n : Int)) := by
  unfold laws_heldIntS.f
  have := heldIntS_l0 n hn 1 (by omega) n k 0 (by omega) (by omega) hk
  rw [Int.add_zero] at this
  exact this
theorem impl_areMoves_ev (s : ByteArray) (hn : s.size ≤ 1000000000) : impl_areMoves.f s = some (dok s.data.toList) := by
  unfold impl_areMoves.f; rw [if_pos (by omega)]; rfl
theorem impl_isDance_ev (s : ByteArray) : impl_isDance.f s = some (decide (Dn s)) := by
  unfold impl_isDance.f
  by_cases h : (s.size : Int) ≤ 40
  · rw [if_pos h, impl_areMoves_ev s (by omega)]
    show some (dok s.data.toList) = _
    congr 1
    by_cases hd : dok s.data.toList = true
    · rw [hd, decide_eq_true (show Dn s from ⟨hd, by omega⟩)]
    · rw [decide_eq_false (show ¬ Dn s from fun x => hd x.1)]; simpa using hd
  · rw [if_neg h, decide_eq_false (fun x => h (by have := x.2; omega))]
def kmv (q : Int) (c : UInt8) : Int := if c = 82 then (if q = 0 then 1 else if q = 1 then 0 else 2) else (if q = 0 then 2 else if q = 1 then 1 else 0)
def eK (q : Int) : List Int := if q = 0 then [1, 0, 3, 2] else if q = 1 then [2, 3, 0, 1] else [3, 2, 1, 0]
theorem kmv_rng (q : Int) (c : UInt8) : kmv q c = 0 ∨ kmv q c = 1 ∨ kmv q c = 2 := by
  unfold kmv
  repeat' split
  all_goals simp
def kE (s : ByteArray) : Int := s.data.toList.foldl kmv 0
theorem pkL1 (n : Nat) (a b c d : Int) (r : List Int) (h : impl_EndsAfter.l1 40 [] 0 a b c d = some r) : impl_EndsAfter.l1 (40 + n) [] 0 a b c d = some r := by
  induction n with
  | zero => exact h
  | succ n ih => exact (impl_EndsAfter.mono_l (40 + n)).2.1 _ _ _ _ _ _ r ih
def cpt (q a b c d : Int) : Prop := (q = 0 ∧ ((a = 0 ∧ b = 0 ∧ c = 1 ∧ d = 1) ∨ (a = 1 ∧ b = 1 ∧ c = 0 ∧ d = 0))) ∨ (q = 1 ∧ ((a = 0 ∧ b = 1 ∧ c = 0 ∧ d = 1) ∨ (a = 1 ∧ b = 0 ∧ c = 1 ∧ d = 0))) ∨ (q = 2 ∧ ((a = 0 ∧ b = 1 ∧ c = 1 ∧ d = 0) ∨ (a = 1 ∧ b = 0 ∧ c = 0 ∧ d = 1)))
theorem cpt_l1 {q a b c d : Int} (h : cpt q a b c d) (k : Nat) (hk : 40 ≤ k) : impl_EndsAfter.l1 k [] 0 a b c d = some (eK q) := by
  obtain ⟨n, rfl⟩ : ∃ n, k = 40 + n := ⟨k - 40, by omega⟩
  rcases h with ⟨rfl, ⟨rfl, rfl, rfl, rfl⟩ | ⟨rfl, rfl, rfl, rfl⟩⟩ | ⟨rfl, ⟨rfl, rfl, rfl, rfl⟩ | ⟨rfl, rfl, rfl, rfl⟩⟩ | ⟨rfl, ⟨rfl, rfl, rfl, rfl⟩ | ⟨rfl, rfl, rfl, rfl⟩⟩
  all_goals exact pkL1 n _ _ _ _ _ (by decide +kernel)
theorem cpt_R {q a b c d : Int} {x : UInt8} (hx : x = 82) (h : cpt q a b c d) : cpt (kmv q x) c a d b := by
  subst hx
  rcases h with ⟨rfl, ⟨rfl, rfl, rfl, rfl⟩ | ⟨rfl, rfl, rfl, rfl⟩⟩ | ⟨rfl, ⟨rfl, rfl, rfl, rfl⟩ | ⟨rfl, rfl, rfl, rfl⟩⟩ | ⟨rfl, ⟨rfl, rfl, rfl, rfl⟩ | ⟨rfl, rfl, rfl, rfl⟩⟩
  all_goals (simp [cpt, kmv])
theorem cpt_T {q a b c d : Int} {x : UInt8} (hx : ¬ x = 82) (h : cpt q a b c d) : cpt (kmv q x) a d c b := by
  unfold kmv
  rw [if_neg hx]
  rcases h with ⟨rfl, ⟨rfl, rfl, rfl, rfl⟩ | ⟨rfl, rfl, rfl, rfl⟩⟩ | ⟨rfl, ⟨rfl, rfl, rfl, rfl⟩ | ⟨rfl, rfl, rfl, rfl⟩⟩ | ⟨rfl, ⟨rfl, rfl, rfl, rfl⟩ | ⟨rfl, rfl, rfl, rfl⟩⟩
  all_goals (simp [cpt])
theorem impl_EndsAfter_l0 (s : ByteArray) (h40 : s.size ≤ 40) (e : Nat) : ∀ (k : Nat) (i : Nat) (q a b c d : Int), e + 50 ≤ k → i + e = s.size → cpt q a b c d → impl_EndsAfter.l0 k s (s.size : Int) (i : Int) a b c d = some (eK ((s.data.toList.drop i).foldl kmv q)) := by
  have hsz : s.data.toList.length = s.size := by simp
  induction e with
  | zero =>
    intro k i q a b c d hk hd hc
    obtain ⟨k, rfl⟩ : ∃ m, k = m + 1 := ⟨k - 1, by omega⟩
    rw [impl_EndsAfter.l0.eq_2, if_neg (by omega), List.drop_eq_nil_of_le (by omega)]
    exact cpt_l1 hc k (by omega)
  | succ e ih =>
    intro k i q a b c d hk hd hc
    obtain ⟨k, rfl⟩ : ∃ m, k = m + 1 := ⟨k - 1, by omega⟩
    have hi : i < s.data.toList.length := by omega
    have hb' : bt s (i : Int) = (s.data.toList[i].toNat : Int) := bt_get s (i : Int) (by omega) (by omega)
    have e1 : ((i : Int) + 1) = ((i + 1 : Nat) : Int) := by omega
    rw [impl_EndsAfter.l0.eq_2, if_pos (by omega), if_pos (by omega), if_pos (by omega), w64 (by omega), hb', e1, List.drop_eq_getElem_cons hi]
    generalize s.data.toList[i] = x
    have hx : ((x.toNat : Int) = 82) ↔ x = 82 := u8_eq x 82 (by omega)
    show _ = some (eK ((List.drop (i + 1) s.data.toList).foldl kmv (kmv q x)))
    by_cases h : x = 82
    · rw [if_pos (hx.2 h)]
      exact ih k (i + 1) _ _ _ _ _ (by omega) (by omega) (cpt_R h hc)
    · rw [if_neg (fun y => h (hx.1 y))]
      exact ih k (i + 1) _ _ _ _ _ (by omega) (by omega) (cpt_T h hc)
theorem impl_EndsAfter_ev (k : Nat) (s : ByteArray) (hk : 100 ≤ k) : impl_EndsAfter.f k s = some (if Dn s then eK (kE s) else []) := by
  unfold impl_EndsAfter.f
  rw [impl_isDance_ev]
  simp only [Option.bind_some, decide_eq_true_eq]
  by_cases h : Dn s
  · have h40 := h.2
    rw [if_pos h, if_pos h]
    exact impl_EndsAfter_l0 s (by omega) s.size k 0 0 0 0 1 1 (by omega) (by omega) (by simp [cpt])
  · rw [if_neg h, if_neg h]
theorem l6R : spec_l6Swap.f 82 0 = some 1 ∧ spec_l6Swap.f 82 1 = some 3 ∧ spec_l6Swap.f 82 2 = some 0 ∧ spec_l6Swap.f 82 3 = some 2 := by decide
theorem l6T (b : Int) (h : ¬ b = 82) : spec_l6Swap.f b 0 = some 0 ∧ spec_l6Swap.f b 1 = some 3 ∧ spec_l6Swap.f b 2 = some 2 ∧ spec_l6Swap.f b 3 = some 1 := by
  unfold spec_l6Swap.f
  simp only [if_neg h]
  decide
theorem w_lit : wrap64 (0 + 1) = 1 ∧ wrap64 (1 + 1) = 2 ∧ wrap64 (2 + 1) = 3 ∧ wrap64 (3 + 1) = 4 := by refine ⟨?_, ?_, ?_, ?_⟩ <;> (unfold wrap64; omega)
theorem spec_EndsAfter_l1 (s : ByteArray) (i : Nat) (x : UInt8) (hi : i < s.size) (h40 : s.size ≤ 40) (hx : bt s (i : Int) = (x.toNat : Int)) (k : Nat) (q : Int) (hq : q = 0 ∨ q = 1 ∨ q = 2) :
    spec_EndsAfter.l1 (k + 5) s (eK q) (i : Int) (List.replicate 4 0) 0 = spec_EndsAfter.l0 k s (eK (kmv q x)) ((i + 1 : Nat) : Int) := by
  have hx' : ((x.toNat : Int) = 82) ↔ x = 82 := u8_eq x 82 (by omega)
  have i1 : (0 : Int) ≤ (i : Int) := by omega
  have i2 : (i : Int) < (s.size : Int) := by omega
  have e1 : wrap64 ((i : Int) + 1) = ((i + 1 : Nat) : Int) := by rw [w64 (by omega)]; omega
  obtain ⟨w1, w2, w3, w4⟩ := w_lit
  by_cases h : x = 82
  · have hb : bt s (i : Int) = 82 := by rw [hx]; exact hx'.2 h
    obtain ⟨a0, a1, a2, a3⟩ := l6R
    subst h
    rcases hq with rfl | rfl | rfl
    · have r0 : rd (eK 0) 0 = 1 ∧ rd (eK 0) 1 = 0 ∧ rd (eK 0) 2 = 3 ∧ rd (eK 0) 3 = 2 ∧ (eK 0).length = 4 := by decide
      obtain ⟨r0, r1, r2, r3, r4⟩ := r0
      rw [spec_EndsAfter.l1.eq_2, if_pos (by decide), if_pos i1, if_pos i2, hb, a0, Option.bind_some, if_pos (by decide), if_pos (by rw [r4]; decide), r0, a1, Option.bind_some, if_pos (by decide), if_pos (by decide), w1]
      rw [spec_EndsAfter.l1.eq_2, if_pos (by decide), if_pos i1, if_pos i2, hb, a1, Option.bind_some, if_pos (by decide), if_pos (by rw [r4]; decide), r1, a0, Option.bind_some, if_pos (by decide), if_pos (by decide), w2]
      rw [spec_EndsAfter.l1.eq_2, if_pos (by decide), if_pos i1, if_pos i2, hb, a2, Option.bind_some, if_pos (by decide), if_pos (by rw [r4]; decide), r2, a3, Option.bind_some, if_pos (by decide), if_pos (by decide), w3]
      rw [spec_EndsAfter.l1.eq_2, if_pos (by decide), if_pos i1, if_pos i2, hb, a3, Option.bind_some, if_pos (by decide), if_pos (by rw [r4]; decide), r3, a2, Option.bind_some, if_pos (by decide), if_pos (by decide), w4]
      rw [spec_EndsAfter.l1.eq_2, if_neg (by decide), e1]
      rfl
    · have r0 : rd (eK 1) 0 = 2 ∧ rd (eK 1) 1 = 3 ∧ rd (eK 1) 2 = 0 ∧ rd (eK 1) 3 = 1 ∧ (eK 1).length = 4 := by decide
      obtain ⟨r0, r1, r2, r3, r4⟩ := r0
      rw [spec_EndsAfter.l1.eq_2, if_pos (by decide), if_pos i1, if_pos i2, hb, a0, Option.bind_some, if_pos (by decide), if_pos (by rw [r4]; decide), r0, a2, Option.bind_some, if_pos (by decide), if_pos (by decide), w1]
      rw [spec_EndsAfter.l1.eq_2, if_pos (by decide), if_pos i1, if_pos i2, hb, a1, Option.bind_some, if_pos (by decide), if_pos (by rw [r4]; decide), r1, a3, Option.bind_some, if_pos (by decide), if_pos (by decide), w2]
      rw [spec_EndsAfter.l1.eq_2, if_pos (by decide), if_pos i1, if_pos i2, hb, a2, Option.bind_some, if_pos (by decide), if_pos (by rw [r4]; decide), r2, a0, Option.bind_some, if_pos (by decide), if_pos (by decide), w3]
      rw [spec_EndsAfter.l1.eq_2, if_pos (by decide), if_pos i1, if_pos i2, hb, a3, Option.bind_some, if_pos (by decide), if_pos (by rw [r4]; decide), r3, a1, Option.bind_some, if_pos (by decide), if_pos (by decide), w4]
      rw [spec_EndsAfter.l1.eq_2, if_neg (by decide), e1]
      rfl
    · have r0 : rd (eK 2) 0 = 3 ∧ rd (eK 2) 1 = 2 ∧ rd (eK 2) 2 = 1 ∧ rd (eK 2) 3 = 0 ∧ (eK 2).length = 4 := by decide
      obtain ⟨r0, r1, r2, r3, r4⟩ := r0
      rw [spec_EndsAfter.l1.eq_2, if_pos (by decide), if_pos i1, if_pos i2, hb, a0, Option.bind_some, if_pos (by decide), if_pos (by rw [r4]; decide), r0, a3, Option.bind_some, if_pos (by decide), if_pos (by decide), w1]
      rw [spec_EndsAfter.l1.eq_2, if_pos (by decide), if_pos i1, if_pos i2, hb, a1, Option.bind_some, if_pos (by decide), if_pos (by rw [r4]; decide), r1, a2, Option.bind_some, if_pos (by decide), if_pos (by decide), w2]
      rw [spec_EndsAfter.l1.eq_2, if_pos (by decide), if_pos i1, if_pos i2, hb, a2, Option.bind_some, if_pos (by decide), if_pos (by rw [r4]; decide), r2, a1, Option.bind_some, if_pos (by decide), if_pos (by decide), w3]
      rw [spec_EndsAfter.l1.eq_2, if_pos (by decide), if_pos i1, if_pos i2, hb, a3, Option.bind_some, if_pos (by decide), if_pos (by rw [r4]; decide), r3, a0, Option.bind_some, if_pos (by decide), if_pos (by decide), w4]
      rw [spec_EndsAfter.l1.eq_2, if_neg (by decide), e1]
      rfl
  · have hb : ¬ bt s (i : Int) = 82 := by rw [hx]; exact fun y => h (hx'.1 y)
    obtain ⟨a0, a1, a2, a3⟩ := l6T _ hb
    have ek : kmv q x = if q = 0 then 2 else if q = 1 then 1 else 0 := by unfold kmv; rw [if_neg h]
    rw [ek]
    rcases hq with rfl | rfl | rfl
    · have r0 : rd (eK 0) 0 = 1 ∧ rd (eK 0) 1 = 0 ∧ rd (eK 0) 2 = 3 ∧ rd (eK 0) 3 = 2 ∧ (eK 0).length = 4 := by decide
      obtain ⟨r0, r1, r2, r3, r4⟩ := r0
      rw [spec_EndsAfter.l1.eq_2, if_pos (by decide), if_pos i1, if_pos i2, a0, Option.bind_some, if_pos (by decide), if_pos (by rw [r4]; decide), r0, a1, Option.bind_some, if_pos (by decide), if_pos (by decide), w1]
      rw [spec_EndsAfter.l1.eq_2, if_pos (by decide), if_pos i1, if_pos i2, a1, Option.bind_some, if_pos (by decide), if_pos (by rw [r4]; decide), r1, a0, Option.bind_some, if_pos (by decide), if_pos (by decide), w2]
      rw [spec_EndsAfter.l1.eq_2, if_pos (by decide), if_pos i1, if_pos i2, a2, Option.bind_some, if_pos (by decide), if_pos (by rw [r4]; decide), r2, a3, Option.bind_some, if_pos (by decide), if_pos (by decide), w3]
      rw [spec_EndsAfter.l1.eq_2, if_pos (by decide), if_pos i1, if_pos i2, a3, Option.bind_some, if_pos (by decide), if_pos (by rw [r4]; decide), r3, a2, Option.bind_some, if_pos (by decide), if_pos (by decide), w4]
      rw [spec_EndsAfter.l1.eq_2, if_neg (by decide), e1]
      rfl
    · have r0 : rd (eK 1) 0 = 2 ∧ rd (eK 1) 1 = 3 ∧ rd (eK 1) 2 = 0 ∧ rd (eK 1) 3 = 1 ∧ (eK 1).length = 4 := by decide
      obtain ⟨r0, r1, r2, r3, r4⟩ := r0
      rw [spec_EndsAfter.l1.eq_2, if_pos (by decide), if_pos i1, if_pos i2, a0, Option.bind_some, if_pos (by decide), if_pos (by rw [r4]; decide), r0, a2, Option.bind_some, if_pos (by decide), if_pos (by decide), w1]
      rw [spec_EndsAfter.l1.eq_2, if_pos (by decide), if_pos i1, if_pos i2, a1, Option.bind_some, if_pos (by decide), if_pos (by rw [r4]; decide), r1, a3, Option.bind_some, if_pos (by decide), if_pos (by decide), w2]
      rw [spec_EndsAfter.l1.eq_2, if_pos (by decide), if_pos i1, if_pos i2, a2, Option.bind_some, if_pos (by decide), if_pos (by rw [r4]; decide), r2, a0, Option.bind_some, if_pos (by decide), if_pos (by decide), w3]
      rw [spec_EndsAfter.l1.eq_2, if_pos (by decide), if_pos i1, if_pos i2, a3, Option.bind_some, if_pos (by decide), if_pos (by rw [r4]; decide), r3, a1, Option.bind_some, if_pos (by decide), if_pos (by decide), w4]
      rw [spec_EndsAfter.l1.eq_2, if_neg (by decide), e1]
      rfl
    · have r0 : rd (eK 2) 0 = 3 ∧ rd (eK 2) 1 = 2 ∧ rd (eK 2) 2 = 1 ∧ rd (eK 2) 3 = 0 ∧ (eK 2).length = 4 := by decide
      obtain ⟨r0, r1, r2, r3, r4⟩ := r0
      rw [spec_EndsAfter.l1.eq_2, if_pos (by decide), if_pos i1, if_pos i2, a0, Option.bind_some, if_pos (by decide), if_pos (by rw [r4]; decide), r0, a3, Option.bind_some, if_pos (by decide), if_pos (by decide), w1]
      rw [spec_EndsAfter.l1.eq_2, if_pos (by decide), if_pos i1, if_pos i2, a1, Option.bind_some, if_pos (by decide), if_pos (by rw [r4]; decide), r1, a2, Option.bind_some, if_pos (by decide), if_pos (by decide), w2]
      rw [spec_EndsAfter.l1.eq_2, if_pos (by decide), if_pos i1, if_pos i2, a2, Option.bind_some, if_pos (by decide), if_pos (by rw [r4]; decide), r2, a1, Option.bind_some, if_pos (by decide), if_pos (by decide), w3]
      rw [spec_EndsAfter.l1.eq_2, if_pos (by decide), if_pos i1, if_pos i2, a3, Option.bind_some, if_pos (by decide), if_pos (by rw [r4]; decide), r3, a0, Option.bind_some, if_pos (by decide), if_pos (by decide), w4]
      rw [spec_EndsAfter.l1.eq_2, if_neg (by decide), e1]
      rfl
theorem spec_EndsAfter_l0 (s : ByteArray) (h40 : s.size ≤ 40) (e : Nat) : ∀ (k : Nat) (i : Nat) (q : Int), 6 * e + 2 ≤ k → i + e = s.size → (q = 0 ∨ q = 1 ∨ q = 2) → spec_EndsAfter.l0 k s (eK q) (i : Int) = some (eK ((s.data.toList.drop i).foldl kmv q)) := by
  have hsz : s.data.toList.length = s.size := by simp
  induction e with
  | zero =>
    intro k i q hk hd hq
    obtain ⟨k, rfl⟩ : ∃ m, k = m + 1 := ⟨k - 1, by omega⟩
    rw [spec_EndsAfter.l0.eq_2, if_neg (by omega), List.drop_eq_nil_of_le (by omega)]
    rfl
  | succ e ih =>
    intro k i q hk hd hq
    obtain ⟨k, rfl⟩ : ∃ m, k = m + 6 := ⟨k - 6, by omega⟩
    have hi : i < s.data.toList.length := by omega
    have hb' : bt s (i : Int) = (s.data.toList[i].toNat : Int) := bt_get s (i : Int) (by omega) (by omega)
    rw [spec_EndsAfter.l0.eq_2, if_pos (by omega), if_pos (by decide), spec_EndsAfter_l1 s i _ (by omega) h40 hb' k q hq, List.drop_eq_getElem_cons hi]
    exact ih k (i + 1) _ (by omega) (by omega) (kmv_rng _ _)
theorem spec_EndsAfter_ev (k : Nat) (s : ByteArray) (hk : s.size + 500 ≤ k) (hn : s.size ≤ 1000000000) : spec_EndsAfter.f k s = some (if Dn s then eK (kE s) else []) := by
  unfold spec_EndsAfter.f
  rw [spec_DanceOk_ev k s (by omega) hn]
  simp only [Option.bind_some, decide_eq_true_eq]
  by_cases h : Dn s
  · have h40 := h.2
    rw [if_pos h, if_pos h]
    exact spec_EndsAfter_l0 s (by omega) s.size k 0 0 (by omega) (by omega) (by simp)
  · rw [if_neg h, if_neg h]
theorem eK_len (q : Int) : (eK q).length = 4 := by unfold eK; repeat' split
                                                   all_goals rfl
theorem FnExactEndsAfter (a : ByteArray) : ∃ k, laws_FnExactEndsAfter.f k a = some true := by
  refine ⟨3000000, ?_⟩
  unfold laws_FnExactEndsAfter.f
  by_cases h : (a.size : Int) > 1048576
  · rw [if_pos h]
  · rw [if_neg h, spec_EndsAfter_ev _ a (by omega) (by omega), impl_EndsAfter_ev _ a (by omega)]
    have hl : (if Dn a then eK (kE a) else []).length ≤ 4 := by
      split
      · rw [eK_len]; omega
      · simp
    simp only [Option.bind_some]
    generalize (if Dn a then eK (kE a) else []) = l at hl ⊢
    rw [laws_eqIntS_ev _ l l (by omega) (by omega), markIntS_ev _ l (by omega) (by omega)]
    simp only [Option.bind_some, decide_true, if_true]
    rw [heldIntS_ev _ _ (by omega) (by omega)]
    simp only [Option.bind_some]
    rw [if_neg (by omega)]
    simp
    omega
end Go.Proofs.YtpjiimlcdifneaaDoor.Pure
