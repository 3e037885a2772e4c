/- The pure part of the law FnExactMapOk: the printed law answers true at all arguments of 64 bits. No conditions. -/
import Derived.Test.YtapmccfnjlpamaaPFnExactMapOkx1
import Derived.OpenShut
namespace Go.Proofs.Ytapmccfnjlpamaa.Pure
open Go.RowKit Go.Proofs.Ytapmccfnjlpamaa.PFnExactMapOk Go.Proofs.YtapmccfnjlpamaaW.PrintWords Go.Proofs.YtapmccfnjlpamaaW.PrintLast Go.Proofs.YtapmccfnjlpamaaW.PrintMore
set_option linter.unusedVariables false
set_option linter.unusedSimpArgs false
theorem st {P : Prop} [Decidable P] (h : P) : some true = some (decide P) := by simp [h]
theorem sf {P : Prop} [Decidable P] (h : ¬P) : some false = some (decide P) := by simp [h]
theorem sd {P Q : Prop} [Decidable P] [Decidable Q] (h : P ↔ Q) : some (decide P) = some (decide Q) := by simp [h]
theorem w64 {n : Int} (h : -9223372036854775808 ≤ n ∧ n ≤ 9223372036854775807) : wrap64 n = n := by unfold wrap64; omega
def Fr (u d : Int) : Prop := -1000000 ≤ u ∧ u ≤ 1000000 ∧ 0 ≤ d ∧ d ≤ 1000000 ∧ (d = 0 → u = 1) ∧ (Int.gcd u d = 1)
instance (u d : Int) : Decidable (Fr u d) := by unfold Fr; exact inferInstance
def Pt (n : Int) : Prop := -1000000 ≤ n ∧ n ≤ 1000000
instance (n : Int) : Decidable (Pt n) := by unfold Pt; exact inferInstance
theorem gcd_step (a b : Int) : Int.gcd b (Int.tmod a b) = Int.gcd a b := by
  unfold Int.gcd
  rw [Int.natAbs_tmod, Nat.gcd_comm a.natAbs b.natAbs, Nat.gcd_rec b.natAbs a.natAbs, Nat.gcd_comm]
theorem tmod_lt (a b : Int) (h : b ≠ 0) : (Int.tmod a b).natAbs < b.natAbs := by
  rw [Int.natAbs_tmod]
  exact Nat.mod_lt _ (by omega)
theorem tdiv_le (a b : Int) : (Int.tdiv a b).natAbs ≤ a.natAbs := by
  rw [Int.natAbs_tdiv]
  exact Nat.div_le_self _ _
theorem tdiv_w (a b : Int) (h : -1000000 ≤ a ∧ a ≤ 1000000) : wrap64 (Int.tdiv a b) = Int.tdiv a b := by
  have := tdiv_le a b
  exact w64 (by omega)
theorem gcd_le_pt (a b : Int) (ha : Pt a) (hb : Pt b) : (Int.gcd a b : Int) ≤ 1000000 := by
  unfold Pt at ha hb
  by_cases h : a = 0
  · subst h
    rw [Int.zero_gcd]
    omega
  · have := Int.gcd_le_natAbs_left b h
    omega
theorem gcd_pos (a b : Int) (h : ¬(a = 0 ∧ b = 0)) : 0 < Int.gcd a b := by
  rcases Nat.eq_zero_or_pos (Int.gcd a b) with h' | h'
  · exact absurd (Int.gcd_eq_zero_iff.mp h') h
  · exact h'
def sg (u d : Int) : Int := if d < 0 ∨ (d = 0 ∧ u < 0) then -(Int.gcd u d : Int) else (Int.gcd u d : Int)
def lowU (u d : Int) : Int := Int.tdiv u (sg u d)
def lowD (u d : Int) : Int := Int.tdiv d (sg u d)
theorem sg_ne (u d : Int) (h : ¬(u = 0 ∧ d = 0)) : sg u d ≠ 0 := by
  have := gcd_pos u d h
  unfold sg
  split <;> omega
theorem mulb {a b : Int} (ha : Pt a) (hb : Pt b) : -1000000000000 ≤ a * b ∧ a * b ≤ 1000000000000 := by
  unfold Pt at ha hb
  have h1 : a.natAbs ≤ 1000000 := by omega
  have h2 : b.natAbs ≤ 1000000 := by omega
  have := Nat.mul_le_mul h1 h2
  rw [← Int.natAbs_mul] at this
  omega
theorem wmul {a b : Int} (ha : Pt a) (hb : Pt b) : wrap64 (a * b) = a * b := by
  have := mulb ha hb
  exact w64 (by omega)
theorem Fr.pu {u d : Int} (h : Fr u d) : Pt u := ⟨h.1, h.2.1⟩
theorem Fr.pd {u d : Int} (h : Fr u d) : Pt d := by unfold Fr at h; unfold Pt; omega
theorem impl_isPart_ev (n : Int) : impl_isPart.f n = some (decide (Pt n)) := by
  unfold impl_isPart.f Pt
  split
  · exact sd (by omega)
  · exact sf (by omega)
theorem spec_l1In_ev (n a b : Int) : spec_l1In.f n a b = some (decide (a ≤ n ∧ n ≤ b)) := by
  unfold spec_l1In.f
  split
  · exact sd (by omega)
  · exact sf (by omega)
theorem laws_toMap_ev (a b c d : Int) : laws_toMap.f a b c d = some (a, b, c, d) := rfl
def Mp (a b c d : Int) : Prop := Pt a ∧ Pt b ∧ Pt c ∧ Pt d ∧ a * d - b * c = 1 ∧ (0 < c ∨ c = 0 ∧ 0 < d)
instance (a b c d : Int) : Decidable (Mp a b c d) := by unfold Mp; exact inferInstance
theorem wdet {a b c d : Int} (ha : Pt a) (hb : Pt b) (hc : Pt c) (hd : Pt d) : wrap64 (wrap64 (a * d) - wrap64 (b * c)) = a * d - b * c := by
  have h1 := mulb ha hd
  have h2 := mulb hb hc
  rw [wmul ha hd, wmul hb hc]
  exact w64 (by omega)
theorem spec_MapOk_ev (a b c d : Int) : spec_MapOk.f a b c d = some (decide (Mp a b c d)) := by
  have pt : ∀ n : Int, (-1000000 ≤ n ∧ n ≤ 1000000) ↔ Pt n := fun n => Iff.rfl
  unfold spec_MapOk.f
  simp only [spec_l1In_ev, Option.bind_some, decide_eq_true_eq, pt]
  by_cases ha : Pt a
  · rw [if_pos ha]
    by_cases hb : Pt b
    · rw [if_pos hb]
      by_cases hc : 0 ≤ c ∧ c ≤ 1000000
      · rw [if_pos hc]
        have hc' : Pt c := by unfold Pt; omega
        by_cases hd : Pt d
        · rw [if_pos hd, wdet ha hb hc' hd]
          by_cases h : a * d - b * c = 1
          · rw [if_pos h]
            by_cases h3 : c > 0
            · rw [if_pos h3]; exact st ⟨ha, hb, hc', hd, h, Or.inl h3⟩
            · rw [if_neg h3]; exact sd ⟨fun x => ⟨ha, hb, hc', hd, h, Or.inr ⟨by omega, x⟩⟩, fun x => by have := x.2.2.2.2.2; omega⟩
          · rw [if_neg h]; exact sf (fun x => h x.2.2.2.2.1)
        · rw [if_neg hd]; exact sf (fun x => hd x.2.2.2.1)
      · rw [if_neg hc]; exact sf (fun x => hc (by have h1 := x.2.2.1; have h2 := x.2.2.2.2.2; unfold Pt at h1; omega))
    · rw [if_neg hb]; exact sf (fun x => hb x.2.1)
  · rw [if_neg ha]; exact sf (fun x => ha x.1)
theorem impl_isMap_ev (a b c d : Int) : impl_isMap.f a b c d = some (decide (Mp a b c d)) := by
  unfold impl_isMap.f
  simp only [impl_isPart_ev, Option.bind_some, decide_eq_true_eq]
  by_cases ha : Pt a
  · rw [if_pos ha]
    by_cases hb : Pt b
    · rw [if_pos hb]
      by_cases hc : Pt c
      · rw [if_pos hc]
        by_cases hd : Pt d
        · rw [if_pos hd, wdet ha hb hc hd]
          by_cases h : a * d - b * c = 1
          · rw [if_pos h]
            by_cases h3 : c > 0
            · rw [if_pos h3]; exact st ⟨ha, hb, hc, hd, h, Or.inl h3⟩
            · rw [if_neg h3]
              by_cases h4 : c = 0
              · rw [if_pos h4]; exact sd ⟨fun x => ⟨ha, hb, hc, hd, h, Or.inr ⟨h4, x⟩⟩, fun x => by have := x.2.2.2.2.2; omega⟩
              · rw [if_neg h4]; exact sf (fun x => by have := x.2.2.2.2.2; omega)
          · rw [if_neg h]; exact sf (fun x => h x.2.2.2.2.1)
        · rw [if_neg hd]; exact sf (fun x => hd x.2.2.2.1)
      · rw [if_neg hc]; exact sf (fun x => hc x.2.2.1)
    · rw [if_neg hb]; exact sf (fun x => hb x.2.1)
  · rw [if_neg ha]; exact sf (fun x => ha x.1)
theorem impl_MapOk_ev (a b c d : Int) : impl_MapOk.f a b c d = some (decide (Mp a b c d)) := by
  unfold impl_MapOk.f
  rw [impl_isMap_ev]; rfl
theorem FnExactMapOk : ∀ (a0_0 : Int) (a0_1 : Int) (a0_2 : Int) (a0_3 : Int), (Lit.int .i64 a0_0).wf = true → (Lit.int .i64 a0_1).wf = true → (Lit.int .i64 a0_2).wf = true → (Lit.int .i64 a0_3).wf = true → laws_FnExactMapOk.f a0_0 a0_1 a0_2 a0_3 = some true := by
  intro a b c d _ _ _ _
  unfold laws_FnExactMapOk.f
  simp only [laws_toMap_ev, Option.bind_some, spec_MapOk_ev, impl_MapOk_ev]
  simp
end Go.Proofs.Ytapmccfnjlpamaa.Pure
