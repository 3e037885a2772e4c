/- The law FnExactLongFrom holds: for every input the call returns true, and its arguments read as before; the card ties the listed library tables to the program's text. No conditions. -/
import Derived.Test.YtcahmfhlmclgkaaDoorRows
import Derived.Test.YtcahmfhlmclgkaaDoorCards
import Derived.Test.YtcahmfhlmclgkaaDoorTie
import Derived.Test.YtcahmfhlmclgkaaDoorPFnExactLongFromx5
import Derived.Test.YtcahmfhlmclgkaaDoorPureFnExactLongFrom
import Derived.WalkKit
import Derived.ProofKit
import Derived.OpenShut
import Derived.ShutString
import Derived.ChangeOld
import Derived.Below
import Derived.SizedLaws
import Derived.Lib.SmallJoins
import Derived.LaidMore
import Derived.Lay
import Derived.SevenTiedAt
import Derived.Stop.Joined
namespace Go.Proofs.YtcahmfhlmclgkaaDoor.fnExactLongFrom
open Go.ChangeShapes Go.WideShapes Go.ChangeAt Go.RowKit Go.Joins
open Go.ChangeMaps (open_string shut_string)
open Go.Proofs.YtcahmfhlmclgkaaDoorW.PrintWords (ReadsInt)
set_option linter.unusedVariables false
theorem own : ownKnob Tryd.prog.godebug = none := by kernel_rfl
theorem cells24 : Tryd.prog.cellsOf 24 = 2 := by kernel_rfl
set_option maxRecDepth 100000 in
theorem opens24 {H : Type} {enc : TypeId × Value → H} {W : World} {b0 : Nat} {v : Value} {d : DataW H} {p : List MemPlace} (hv : Value.okWide Tryd.prog W .any b0 24 v) (h : DataW.Trod enc Tryd.prog W 0 (fun _ => true) true 24 v d p) :
    ∃ i0 i1 : Int, v = .agg #[.int .i64 i0, .int .i64 i1] ∧ d = .agg [.lit (.int .i64 i0), .lit (.int .i64 i1)] ∧ p = [] ∧ (Lit.int .i64 i0).wf = true ∧ (Lit.int .i64 i1).wf = true := by
  obtain ⟨v0, v1, y0, y1, m, rfl, rfl, rfl, h0, h1⟩ := open_agg2 Tryd.underlying24 (by kernel_rfl) cells24 hv h
  obtain ⟨i0, e0, rfl, w0⟩ := DataW.trod_int Tryd.underlying3 h0
  cases e0
  obtain ⟨i1, e1, rfl, w1⟩ := DataW.trod_int Tryd.underlying3 h1
  cases e1
  exact ⟨i0, i1, rfl, rfl, rfl, w0, w1⟩
set_option maxRecDepth 100000 in
theorem shuts24 {H : Type} {enc : TypeId × Value → H} {W : World} {base : Nat} {sp : Nat → Bool} {held : Bool} {i0 i1 : Int} (wi0 : (Lit.int .i64 i0).wf = true) (wi1 : (Lit.int .i64 i1).wf = true) :
    DataW.Trod enc Tryd.prog W base sp held 24 (.agg #[.int .i64 i0, .int .i64 i1]) (.agg [.lit (.int .i64 i0), .lit (.int .i64 i1)]) [] :=
  shut_agg2 Tryd.underlying24 (by kernel_rfl) cells24 ⟨1, trod_int_mk 0 Tryd.underlying3 wi0⟩ ⟨1, trod_int_mk 0 Tryd.underlying3 wi1⟩
set_option maxRecDepth 100000 in
theorem lifted (os : Os) (started : os.Started) (H : Type) (enc : TypeId × Value → H) :
    ReturnsInHanded {} Tryd.checked os 5 .any (fun w args => (Rows.fnExactLongFromSpec.pre enc Tryd.prog Tryd.f5 Rows.fnExactLongFromRow.domain false w args ∧ laidMetH Tryd.prog Rows.fnExactLongFromRow.laid w) ∧ sizedMet enc Tryd.prog Tryd.f5 (OpenSpec.ofChange Rows.fnExactLongFromSpec) false w args)
      (Rows.fnExactLongFromSpec.post enc Tryd.prog Tryd.f5 false true false false) := by
  refine returnsInHanded_of_change_and (C := Tryd.checked) (X := fun w _ => laidMetH Tryd.prog Rows.fnExactLongFromRow.laid w) (fun _ _ _ hh h => h.of_heap hh) own started (by kernel_rfl) Tryd.func5
    (ChangeSpec.witness_shaped (enc := enc) (C := Tryd.checked) (os := os) (X := fun w _ => laidMetH Tryd.prog Rows.fnExactLongFromRow.laid w) false (World.laidAll Tryd.prog os Rows.fnExactLongFromRow.laid) #[.agg #[.int .i64 0, .int .i64 0], .string ByteArray.empty] 8 (World.laidAll_os _ _ _)
      (World.shaped_of_ZipB (by kernel_rfl) (by kernel_rfl)) (by kernel_rfl) (by kernel_rfl) (by kernel_rfl)
      (by rw [MakeChecks.laidMetH_plain _ _ _ (by kernel_rfl)]; exact laidMet_laidAll _ (by kernel_rfl) (by kernel_rfl))) ?_
  intro W base args ds gs before hval0 hW hcnd hsz0 hL _
  have hval : ∀ (j : Nat) t v, Tryd.f5.params[j]? = some t → args[j]? = some v → Value.okWide Tryd.prog W .any base t v := hval0
  have hW' := hW
  obtain ⟨p, q, hA0, hV, rfl, hfz, hnd⟩ := hW
  have hA : DataW.TrodAll enc Tryd.prog W 0 (fun _ => true) true Tryd.f5.params.toList args.toList ds p := hA0
  rw [Tryd.params5] at hA hval
  obtain ⟨v0, vs0, d0, ds0, p0, q0, hargs, rfl, rfl, h0, r0⟩ := trodAll_cons hA
  obtain ⟨v1, vs1, d1, ds1, p1, q1, rfl, rfl, rfl, h1, r1⟩ := trodAll_cons r0
  obtain ⟨rfl, rfl, rfl⟩ := trodAll_nil r1
  obtain rfl : args = #[v0, v1] := by cases args; simp_all
  obtain ⟨rfl, rfl⟩ := trodVars_none hV
  obtain ⟨a0_0, a0_1, rfl, rfl, rfl, w0_0, w0_1⟩ := opens24 (hval 0 24 v0 rfl rfl) h0
  obtain ⟨a1, rfl, rfl, rfl, y1⟩ := open_string Tryd.underlying9 (hval 1 9 v1 rfl rfl) h1
  clear hA0 hval0 hsz0
  obtain ⟨k, hk⟩ := Pure.FnExactLongFrom a0_0 a0_1 a1 w0_0 w0_1
  refine (PFnExactLongFrom.laws_FnExactLongFrom.calls k a0_0 a0_1 a1 true W hk).mono fun e W' ⟨he, bel⟩ => ?_
  subst he
  exact ⟨_, rfl, _, _, _, [], _, [], hW', trodAll_mk1 (shut_bool Tryd.underlying4 _), (trodAll_cons_mk (shuts24 w0_0 w0_1) (trodAll_cons_mk (shut_string Tryd.underlying9 y1) trodAll_mk0)), rfl, bel.frame _, fun h => by cases h⟩
theorem holds : Rows.FnExactLongFromSaid :=
  OpenClaim.holds_of_wide 5 Tryd.f5 rfl rfl rfl rfl rfl rfl rfl ⟨rfl, rfl, rfl, rfl, rfl⟩ rfl rfl rfl rfl rfl (by kernel_rfl) Tryd.func5 (by kernel_rfl)
    (of_decide_eq_true (by kernel_rfl)) (by unfold Func.isWrapper; first | (rw [if_pos (by decide +kernel)]; kernel_rfl) | (rw [if_neg (by decide +kernel)]; exact ⟨rfl, rfl⟩))
    (fun os started H enc _ => lifted os started H enc)
theorem card : Rows.FnExactLongFromCardSaid :=
  Claim7.holds_tied_plain_at .later [] [.data, .pinned] true (true, "bb83c54e4de272cbe15269c9af77707692b3c75ad9d07eb3d90a797057cc0082") false holds (fun _ h => by cases h) (by kernel_rfl) (fun _ h => by cases h) fnExactLongFrom_row_tie rfl ⟨rfl, rfl⟩ (by kernel_rfl) rfl
    (fun f fn hf hfn => by
      obtain rfl : f = 5 := Option.some.inj ((show Tryd.prog.funcNamed "loop.example/twistedropes/laws.FnExactLongFrom" = some 5 by kernel_rfl).symm.trans hf) |>.symm
      obtain rfl : fn = Tryd.f5 := (Option.some.inj (Tryd.func5.symm.trans hfn)).symm
      exact ⟨by kernel_rfl, fun j t ht => by
        rw [Tryd.params5] at ht
        have hm : t ∈ [24, 9] := by simpa using Array.mem_of_getElem? ht
        have hall : ([24, 9].all fun u => !Tryd.prog.wantsStandIn u) = true := by kernel_rfl
        exact (show Tryd.prog.wantsStandIn t = false by simpa using List.all_eq_true.1 hall t hm)⟩)
    (by kernel_rfl)
#print axioms card
end Go.Proofs.YtcahmfhlmclgkaaDoor.fnExactLongFrom
namespace Go.Proofs.YtcahmfhlmclgkaaDoor
theorem fnExactLongFrom_holds : Rows.FnExactLongFromCardSaid := fnExactLongFrom.card
end Go.Proofs.YtcahmfhlmclgkaaDoor
