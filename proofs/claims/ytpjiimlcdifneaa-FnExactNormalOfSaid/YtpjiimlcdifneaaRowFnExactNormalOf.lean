/- The law FnExactNormalOf holds: for every input the call returns true, and its arguments read as before. No conditions. -/
import Derived.Test.YtpjiimlcdifneaaRows
import Derived.Test.YtpjiimlcdifneaaPFnExactNormalOfx6
import Derived.Test.YtpjiimlcdifneaaPureFnExactNormalOf
import Derived.WalkKit
import Derived.ProofKit
import Derived.OpenShut
import Derived.ShutString
import Derived.ChangeOld
import Derived.Below
import Derived.SizedLaws
import Derived.Lib.SmallJoins
namespace Go.Proofs.Ytpjiimlcdifneaa.fnExactNormalOf
open Go.ChangeShapes Go.WideShapes Go.ChangeAt Go.RowKit Go.Joins
open Go.ChangeMaps (open_string shut_string)
set_option linter.unusedVariables false
theorem own : ownKnob Try.prog.godebug = none := by kernel_rfl
theorem cells30 : Try.prog.cellsOf 30 = 4 := by kernel_rfl
theorem opens30 {H : Type} {enc : TypeId × Value → H} {W : World} {b0 : Nat} {v : Value} {d : DataW H} {p : List MemPlace} (hv : Value.okWide Try.prog W .any b0 30 v) (h : DataW.Trod enc Try.prog W 0 (fun _ => true) true 30 v d p) :
    ∃ i0 i1 i2 i3 : Int, v = .agg #[.int .i64 i0, .int .i64 i1, .int .i64 i2, .int .i64 i3] ∧ d = .agg [.lit (.int .i64 i0), .lit (.int .i64 i1), .lit (.int .i64 i2), .lit (.int .i64 i3)] ∧ p = [] ∧ (Lit.int .i64 i0).wf = true ∧ (Lit.int .i64 i1).wf = true ∧ (Lit.int .i64 i2).wf = true ∧ (Lit.int .i64 i3).wf = true := by
  obtain ⟨v0, v1, v2, v3, y0, y1, y2, y3, m, rfl, rfl, rfl, h0, h1, h2, h3⟩ := open_agg4 Try.underlying30 (by kernel_rfl) cells30 hv h
  obtain ⟨i0, e0, rfl, w0⟩ := DataW.trod_int Try.underlying3 h0
  cases e0
  obtain ⟨i1, e1, rfl, w1⟩ := DataW.trod_int Try.underlying3 h1
  cases e1
  obtain ⟨i2, e2, rfl, w2⟩ := DataW.trod_int Try.underlying3 h2
  cases e2
  obtain ⟨i3, e3, rfl, w3⟩ := DataW.trod_int Try.underlying3 h3
  cases e3
  exact ⟨i0, i1, i2, i3, rfl, rfl, rfl, w0, w1, w2, w3⟩
theorem shuts30 {H : Type} {enc : TypeId × Value → H} {W : World} {base : Nat} {sp : Nat → Bool} {held : Bool} {i0 i1 i2 i3 : Int} (wi0 : (Lit.int .i64 i0).wf = true) (wi1 : (Lit.int .i64 i1).wf = true) (wi2 : (Lit.int .i64 i2).wf = true) (wi3 : (Lit.int .i64 i3).wf = true) :
    DataW.Trod enc Try.prog W base sp held 30 (.agg #[.int .i64 i0, .int .i64 i1, .int .i64 i2, .int .i64 i3]) (.agg [.lit (.int .i64 i0), .lit (.int .i64 i1), .lit (.int .i64 i2), .lit (.int .i64 i3)]) [] :=
  shut_agg4 Try.underlying30 (by kernel_rfl) cells30 ⟨1, trod_int_mk 0 Try.underlying3 wi0⟩ ⟨1, trod_int_mk 0 Try.underlying3 wi1⟩ ⟨1, trod_int_mk 0 Try.underlying3 wi2⟩ ⟨1, trod_int_mk 0 Try.underlying3 wi3⟩
set_option maxRecDepth 100000 in
theorem lifted (os : Os) (started : os.Started) (H : Type) (enc : TypeId × Value → H) :
    ReturnsInHanded {} Try.checked os 5 .any (Rows.fnExactNormalOfSpec.pre6 enc Try.prog Try.f5 Rows.fnExactNormalOfRow.domain false) (Rows.fnExactNormalOfSpec.post enc Try.prog Try.f5 false true false false) := by
  refine returnsInHanded_of_change_sized (C := Try.checked) own started (by kernel_rfl) Try.func5
    (ChangeSpec.witness6 (enc := enc) (C := Try.checked) false ⟨#[], #[.agg #[.int .i64 0, .int .i64 0, .int .i64 0, .int .i64 0]], []⟩ 8 (by kernel_rfl) (by kernel_rfl) (by kernel_rfl) (by kernel_rfl)) ?_
  intro W base args ds gs before hval0 hW hcnd hsz0 _
  have hsz : (DataW.weightsEach Try.prog (Try.f5.params.toList ++ Rows.fnExactNormalOfSpec.plain.varTypes Try.prog) (ds ++ gs)).all (· ≤ reachBytes) = true := hsz0
  have hval : ∀ (j : Nat) t v, Try.f5.params[j]? = some t → args[j]? = some v → Value.okWide Try.prog W .any base t v := hval0
  have hW' := hW
  obtain ⟨p, q, hA0, hV, rfl, hfz, hnd⟩ := hW
  have hA : DataW.TrodAll enc Try.prog W 0 (fun _ => true) true Try.f5.params.toList args.toList ds p := hA0
  rw [Try.params5] at hA hval hsz
  obtain ⟨v0, vs0, d0, ds0, p0, q0, hargs, rfl, rfl, h0, r0⟩ := trodAll_cons hA
  obtain ⟨rfl, rfl, rfl⟩ := trodAll_nil r0
  obtain rfl : args = #[v0] := by cases args; simp_all
  obtain ⟨rfl, rfl⟩ := trodVars_none hV
  obtain ⟨a0_0, a0_1, a0_2, a0_3, rfl, rfl, rfl, w0_0, w0_1, w0_2, w0_3⟩ := opens30 (hval 0 30 v0 rfl rfl) h0
  clear hA0 hval0 hsz0 hsz
  obtain ⟨k, hk⟩ := Pure.FnExactNormalOf a0_0 a0_1 a0_2 a0_3 w0_0 w0_1 w0_2 w0_3
  refine (PFnExactNormalOf.laws_FnExactNormalOf.calls k a0_0 a0_1 a0_2 a0_3 true W hk).mono fun e W' ⟨he, bel⟩ => ?_
  subst he
  exact ⟨_, rfl, _, _, _, [], _, [], hW', trodAll_mk1 (shut_bool Try.underlying4 _), (trodAll_cons_mk (shuts30 w0_0 w0_1 w0_2 w0_3) trodAll_mk0), rfl, bel.frame _, fun h => by cases h⟩
theorem over : Rows.fnExactNormalOfRow.holds Try.pinned (OpenSpec.ofChange Rows.fnExactNormalOfSpec) :=
  OpenClaim.holds_of_wide 5 Try.f5 rfl rfl rfl rfl rfl rfl rfl ⟨rfl, rfl, rfl, rfl, rfl⟩ rfl rfl rfl rfl rfl (by kernel_rfl) Try.func5 (by kernel_rfl)
    (of_decide_eq_true (by kernel_rfl)) (by unfold Func.isWrapper; first | (rw [if_pos (by decide +kernel)]; kernel_rfl) | (rw [if_neg (by decide +kernel)]; exact ⟨rfl, rfl⟩))
    (fun os started H enc _ => lifted os started H enc)
theorem proved : Rows.FnExactNormalOfSaid := over
#print axioms proved
end Go.Proofs.Ytpjiimlcdifneaa.fnExactNormalOf
namespace Go.Proofs.Ytpjiimlcdifneaa
theorem fnExactNormalOf_holds : Rows.FnExactNormalOfSaid := fnExactNormalOf.proved
end Go.Proofs.Ytpjiimlcdifneaa
