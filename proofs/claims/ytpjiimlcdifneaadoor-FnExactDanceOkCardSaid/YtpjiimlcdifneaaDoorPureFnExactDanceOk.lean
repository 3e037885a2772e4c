/- What the walked law FnExactDanceOk computes, answers true. -/
import Derived.Test.YtpjiimlcdifneaaDoorPFnExactDanceOkx1
import Derived.OpenShut
namespace Go.Proofs.YtpjiimlcdifneaaDoor.Pure
open Go.RowKit Go.Proofs.YtpjiimlcdifneaaDoor.PFnExactDanceOk Go.Proofs.YtpjiimlcdifneaaDoorW.PrintWords Go.Proofs.YtpjiimlcdifneaaDoorW.PrintLast Go.Proofs.YtpjiimlcdifneaaDoorW.PrintMore
set_option linter.unusedVariables false
set_option linter.unusedSimpArgs false
theorem sf {P : Prop} [Decidable P] (h : ¬P) : some false = some (decide P) := by simp [h]
theorem sd {P Q : Prop} [Decidable P] [Decidable Q] (h : P ↔ Q) : some (decide P) = some (decide Q) := by simp [h]
theorem w64 {n : Int} (h : -9223372036854775808 ≤ n ∧ n ≤ 9223372036854775807) : wrap64 n = n := by unfold wrap64; omega
theorem bt_get (s : ByteArray) (i : Int) (h0 : 0 ≤ i) (h : i.toNat < s.size) : bt s i = (s.data.toList[i.toNat]'(by simpa using h)).toNat := by
  unfold bt
  rw [dif_pos h]
  rfl
def mv (c : UInt8) : Bool := c == 84 || c == 116 || c == 82
def dok (l : List UInt8) : Bool := l.all mv
theorem mv_iff (c : UInt8) : mv c = true ↔ ((c.toNat : Int) = 84 ∨ (c.toNat : Int) = 116 ∨ (c.toNat : Int) = 82) := by
  unfold mv
  simp only [Bool.or_eq_true, beq_iff_eq]
  have e1 : (84 : UInt8).toNat = 84 := rfl
  have e2 : (116 : UInt8).toNat = 116 := rfl
  have e3 : (82 : UInt8).toNat = 82 := rfl
  rw [← UInt8.toNat_inj, ← UInt8.toNat_inj, ← UInt8.toNat_inj, e1, e2, e3]
  omega
def Dn (s : ByteArray) : Prop := dok s.data.toList = true ∧ s.size ≤ 40
instance (s : ByteArray) : Decidable (Dn s) := by unfold Dn; exact inferInstance
theorem spec_DanceOk_l0 (s : ByteArray) (hn : s.size ≤ 1000000000) (d : Nat) : ∀ (k : Nat) (i : Int), 0 ≤ i → i + d = s.size → d < k → spec_DanceOk.l0 k s i = some (decide (dok (s.data.toList.drop i.toNat) = true ∧ s.size ≤ 40)) := by
  have hsz : s.data.toList.length = s.size := by simp
  induction d with
  | zero =>
    intro k i h0 hd hk
    obtain ⟨k, rfl⟩ : ∃ m, k = m + 1 := ⟨k - 1, by omega⟩
    simp only [spec_DanceOk.l0]
    rw [if_neg (by omega), List.drop_eq_nil_of_le (by omega)]
    exact sd ⟨fun x => ⟨rfl, by omega⟩, fun x => by omega⟩
  | succ d ih =>
    intro k i h0 hd hk
    obtain ⟨k, rfl⟩ : ∃ m, k = m + 1 := ⟨k - 1, by omega⟩
    simp only [spec_DanceOk.l0]
    have h1 : i.toNat < s.size := by omega
    have h2 : i.toNat < s.data.toList.length := by omega
    rw [if_pos (by omega), if_pos h0, w64 (by omega), ih k (i + 1) (by omega) (by omega) (by omega)]
    have e : (i + 1).toNat = i.toNat + 1 := by omega
    rw [e, bt_get s i h0 h1, List.drop_eq_getElem_cons h2]
    generalize s.data.toList[i.toNat] = c
    have hm := mv_iff c
    have hc : dok (c :: List.drop (i.toNat + 1) s.data.toList) = (mv c && dok (List.drop (i.toNat + 1) s.data.toList)) := rfl
    rw [hc]
    by_cases c1 : (c.toNat : Int) = 84
    · rw [if_pos c1]; have : mv c = true := hm.2 (Or.inl c1); rw [this, Bool.true_and]
    · rw [if_neg c1]
      by_cases c2 : (c.toNat : Int) = 116
      · rw [if_pos c2]; have : mv c = true := hm.2 (Or.inr (Or.inl c2)); rw [this, Bool.true_and]
      · rw [if_neg c2]
        by_cases c3 : (c.toNat : Int) = 82
        · rw [if_pos c3]; have : mv c = true := hm.2 (Or.inr (Or.inr c3)); rw [this, Bool.true_and]
        · rw [if_neg c3]
          have : mv c = false := by
            rcases Bool.eq_false_or_eq_true (mv c) with h | h
            · have := hm.1 h; omega
            · exact h
          rw [this, Bool.false_and]
          exact sf (by simp)
theorem spec_DanceOk_ev (k : Nat) (s : ByteArray) (hk : s.size < k) (hn : s.size ≤ 1000000000) : spec_DanceOk.f k s = some (decide (Dn s)) := by
  unfold spec_DanceOk.f
  rw [spec_DanceOk_l0 s hn s.size k 0 (by omega) (by omega) hk]
  rfl
theorem impl_areMoves_ev (s : ByteArray) (hn : s.size ≤ 1000000000) : impl_areMoves.f s = some (dok s.data.toList) := by
  unfold impl_areMoves.f; rw [if_pos (by omega)]; rfl
theorem impl_isDance_ev (s : ByteArray) : impl_isDance.f s = some (decide (Dn s)) := by
  unfold impl_isDance.f
  by_cases h : (s.size : Int) ≤ 40
  · rw [if_pos h, impl_areMoves_ev s (by omega)]
    show some (dok s.data.toList) = _
    congr 1
    by_cases hd : dok s.data.toList = true
    · rw [hd, decide_eq_true (show Dn s from ⟨hd, by omega⟩)]
    · rw [decide_eq_false (show ¬ Dn s from fun x => hd x.1)]; simpa using hd
  · rw [if_neg h, decide_eq_false (fun x => h (by have := x.2; omega))]
theorem impl_DanceOk_ev (s : ByteArray) : impl_DanceOk.f s = some (decide (Dn s)) := by unfold impl_DanceOk.f; rw [impl_isDance_ev]; rfl
theorem FnExactDanceOk (a : ByteArray) : ∃ k, laws_FnExactDanceOk.f k a = some true := by
  refine ⟨1048600, ?_⟩
  unfold laws_FnExactDanceOk.f
  by_cases h : (a.size : Int) > 1048576
  · rw [if_pos h]
  · rw [if_neg h, spec_DanceOk_ev _ a (by omega) (by omega), impl_DanceOk_ev]
    simp
end Go.Proofs.YtpjiimlcdifneaaDoor.Pure
