/- The law FnExactFasterOf holds: for every input the call returns true, and its arguments read as before. No conditions. -/
import Derived.Test.YtpjiimlcdifneaaRows
import Derived.Test.YtpjiimlcdifneaaPFnExactFasterOfx4
import Derived.Test.YtpjiimlcdifneaaPureFnExactFasterOf
import Derived.WalkKit
import Derived.ProofKit
import Derived.OpenShut
import Derived.ShutString
import Derived.ChangeOld
import Derived.Below
import Derived.SizedLaws
import Derived.Lib.SmallJoins
namespace Go.Proofs.Ytpjiimlcdifneaa.fnExactFasterOf
open Go.ChangeShapes Go.WideShapes Go.ChangeAt Go.RowKit Go.Joins
open Go.ChangeMaps (open_string shut_string)
set_option linter.unusedVariables false
theorem own : ownKnob Try.prog.godebug = none := by kernel_rfl
theorem cells23 : Try.prog.cellsOf 23 = 2 := by kernel_rfl
theorem opens23 {H : Type} {enc : TypeId × Value → H} {W : World} {b0 : Nat} {v : Value} {d : DataW H} {p : List MemPlace} (hv : Value.okWide Try.prog W .any b0 23 v) (h : DataW.Trod enc Try.prog W 0 (fun _ => true) true 23 v d p) :
    ∃ i0 i1 : Int, v = .agg #[.int .i64 i0, .int .i64 i1] ∧ d = .agg [.lit (.int .i64 i0), .lit (.int .i64 i1)] ∧ p = [] ∧ (Lit.int .i64 i0).wf = true ∧ (Lit.int .i64 i1).wf = true := by
  obtain ⟨v0, v1, y0, y1, m, rfl, rfl, rfl, h0, h1⟩ := open_agg2 Try.underlying23 (by kernel_rfl) cells23 hv h
  obtain ⟨i0, e0, rfl, w0⟩ := DataW.trod_int Try.underlying3 h0
  cases e0
  obtain ⟨i1, e1, rfl, w1⟩ := DataW.trod_int Try.underlying3 h1
  cases e1
  exact ⟨i0, i1, rfl, rfl, rfl, w0, w1⟩
theorem shuts23 {H : Type} {enc : TypeId × Value → H} {W : World} {base : Nat} {sp : Nat → Bool} {held : Bool} {i0 i1 : Int} (wi0 : (Lit.int .i64 i0).wf = true) (wi1 : (Lit.int .i64 i1).wf = true) :
    DataW.Trod enc Try.prog W base sp held 23 (.agg #[.int .i64 i0, .int .i64 i1]) (.agg [.lit (.int .i64 i0), .lit (.int .i64 i1)]) [] :=
  shut_agg2 Try.underlying23 (by kernel_rfl) cells23 ⟨1, trod_int_mk 0 Try.underlying3 wi0⟩ ⟨1, trod_int_mk 0 Try.underlying3 wi1⟩
set_option maxRecDepth 100000 in
theorem lifted (os : Os) (started : os.Started) (H : Type) (enc : TypeId × Value → H) :
    ReturnsInHanded {} Try.checked os 3 .any (Rows.fnExactFasterOfSpec.pre6 enc Try.prog Try.f3 Rows.fnExactFasterOfRow.domain false) (Rows.fnExactFasterOfSpec.post enc Try.prog Try.f3 false true false false) := by
  refine returnsInHanded_of_change_sized (C := Try.checked) own started (by kernel_rfl) Try.func3
    (ChangeSpec.witness6 (enc := enc) (C := Try.checked) false ⟨#[], #[.agg #[.int .i64 0, .int .i64 0]], []⟩ 8 (by kernel_rfl) (by kernel_rfl) (by kernel_rfl) (by kernel_rfl)) ?_
  intro W base args ds gs before hval0 hW hcnd hsz0 _
  have hsz : (DataW.weightsEach Try.prog (Try.f3.params.toList ++ Rows.fnExactFasterOfSpec.plain.varTypes Try.prog) (ds ++ gs)).all (· ≤ reachBytes) = true := hsz0
  have hval : ∀ (j : Nat) t v, Try.f3.params[j]? = some t → args[j]? = some v → Value.okWide Try.prog W .any base t v := hval0
  have hW' := hW
  obtain ⟨p, q, hA0, hV, rfl, hfz, hnd⟩ := hW
  have hA : DataW.TrodAll enc Try.prog W 0 (fun _ => true) true Try.f3.params.toList args.toList ds p := hA0
  rw [Try.params3] at hA hval hsz
  obtain ⟨v0, vs0, d0, ds0, p0, q0, hargs, rfl, rfl, h0, r0⟩ := trodAll_cons hA
  obtain ⟨rfl, rfl, rfl⟩ := trodAll_nil r0
  obtain rfl : args = #[v0] := by cases args; simp_all
  obtain ⟨rfl, rfl⟩ := trodVars_none hV
  obtain ⟨a0_0, a0_1, rfl, rfl, rfl, w0_0, w0_1⟩ := opens23 (hval 0 23 v0 rfl rfl) h0
  clear hA0 hval0 hsz0 hsz
  obtain ⟨k, hk⟩ := Pure.FnExactFasterOf a0_0 a0_1 w0_0 w0_1
  refine (PFnExactFasterOf.laws_FnExactFasterOf.calls k a0_0 a0_1 true W hk).mono fun e W' ⟨he, bel⟩ => ?_
  subst he
  exact ⟨_, rfl, _, _, _, [], _, [], hW', trodAll_mk1 (shut_bool Try.underlying4 _), (trodAll_cons_mk (shuts23 w0_0 w0_1) trodAll_mk0), rfl, bel.frame _, fun h => by cases h⟩
theorem over : Rows.fnExactFasterOfRow.holds Try.pinned (OpenSpec.ofChange Rows.fnExactFasterOfSpec) :=
  OpenClaim.holds_of_wide 3 Try.f3 rfl rfl rfl rfl rfl rfl rfl ⟨rfl, rfl, rfl, rfl, rfl⟩ rfl rfl rfl rfl rfl (by kernel_rfl) Try.func3 (by kernel_rfl)
    (of_decide_eq_true (by kernel_rfl)) (by unfold Func.isWrapper; first | (rw [if_pos (by decide +kernel)]; kernel_rfl) | (rw [if_neg (by decide +kernel)]; exact ⟨rfl, rfl⟩))
    (fun os started H enc _ => lifted os started H enc)
theorem proved : Rows.FnExactFasterOfSaid := over
#print axioms proved
end Go.Proofs.Ytpjiimlcdifneaa.fnExactFasterOf
namespace Go.Proofs.Ytpjiimlcdifneaa
theorem fnExactFasterOf_holds : Rows.FnExactFasterOfSaid := fnExactFasterOf.proved
end Go.Proofs.Ytpjiimlcdifneaa
