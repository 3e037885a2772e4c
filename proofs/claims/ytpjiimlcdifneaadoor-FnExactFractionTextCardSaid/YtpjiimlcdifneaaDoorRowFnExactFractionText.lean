/- The law FnExactFractionText holds: for every input the call returns true, and its arguments read as before; the card ties the listed library tables to the program's text. No conditions. -/
import Derived.Test.YtpjiimlcdifneaaDoorRows
import Derived.Test.YtpjiimlcdifneaaDoorCards
import Derived.Test.YtpjiimlcdifneaaDoorTie
import Derived.Test.YtpjiimlcdifneaaDoorPFnExactFractionTextx2
import Derived.Test.YtpjiimlcdifneaaDoorPureFnExactFractionText
import Derived.WalkKit
import Derived.ProofKit
import Derived.OpenShut
import Derived.ShutString
import Derived.ChangeOld
import Derived.Below
import Derived.SizedLaws
import Derived.Lib.SmallJoins
import Derived.LaidMore
import Derived.Lay
import Derived.SevenTiedAt
import Derived.Stop.Joined
import Derived.Lib.LaidTab
import Derived.Stop.LaidErr
import Derived.RowKitTokens
namespace Go.Proofs.YtpjiimlcdifneaaDoor.fnExactFractionText
open Go.ChangeShapes Go.WideShapes Go.ChangeAt Go.RowKit Go.Joins
open Go.ChangeMaps (open_string shut_string)
open Go.Proofs.YtpjiimlcdifneaaDoorW.PrintWords (ReadsInt)
set_option linter.unusedVariables false
theorem own : ownKnob Tryd.prog.godebug = none := by kernel_rfl
theorem cells23 : Tryd.prog.cellsOf 23 = 2 := by kernel_rfl
set_option maxRecDepth 100000 in
theorem opens23 {H : Type} {enc : TypeId × Value → H} {W : World} {b0 : Nat} {v : Value} {d : DataW H} {p : List MemPlace} (hv : Value.okWide Tryd.prog W .any b0 23 v) (h : DataW.Trod enc Tryd.prog W 0 (fun _ => true) true 23 v d p) :
    ∃ i0 i1 : Int, v = .agg #[.int .i64 i0, .int .i64 i1] ∧ d = .agg [.lit (.int .i64 i0), .lit (.int .i64 i1)] ∧ p = [] ∧ (Lit.int .i64 i0).wf = true ∧ (Lit.int .i64 i1).wf = true := by
  obtain ⟨v0, v1, y0, y1, m, rfl, rfl, rfl, h0, h1⟩ := open_agg2 Tryd.underlying23 (by kernel_rfl) cells23 hv h
  obtain ⟨i0, e0, rfl, w0⟩ := DataW.trod_int Tryd.underlying3 h0
  cases e0
  obtain ⟨i1, e1, rfl, w1⟩ := DataW.trod_int Tryd.underlying3 h1
  cases e1
  exact ⟨i0, i1, rfl, rfl, rfl, w0, w1⟩
set_option maxRecDepth 100000 in
theorem shuts23 {H : Type} {enc : TypeId × Value → H} {W : World} {base : Nat} {sp : Nat → Bool} {held : Bool} {i0 i1 : Int} (wi0 : (Lit.int .i64 i0).wf = true) (wi1 : (Lit.int .i64 i1).wf = true) :
    DataW.Trod enc Tryd.prog W base sp held 23 (.agg #[.int .i64 i0, .int .i64 i1]) (.agg [.lit (.int .i64 i0), .lit (.int .i64 i1)]) [] :=
  shut_agg2 Tryd.underlying23 (by kernel_rfl) cells23 ⟨1, trod_int_mk 0 Tryd.underlying3 wi0⟩ ⟨1, trod_int_mk 0 Tryd.underlying3 wi1⟩
theorem tab_eq : (Rows.laid_internal_strconv_uint64pow10 : DataW Unit) = Lib.tabData .u64 Lib.pow10Tab := by kernel_rfl
set_option maxRecDepth 100000 in
theorem lifted (os : Os) (started : os.Started) (H : Type) (enc : TypeId × Value → H) :
    ReturnsInHanded {} Tryd.checked os 3 .any (fun w args => (Rows.fnExactFractionTextSpec.pre enc Tryd.prog Tryd.f3 Rows.fnExactFractionTextRow.domain false w args ∧ laidMetH Tryd.prog Rows.fnExactFractionTextRow.laid w) ∧ sizedMet enc Tryd.prog Tryd.f3 (OpenSpec.ofChange Rows.fnExactFractionTextSpec) false w args)
      (Rows.fnExactFractionTextSpec.post enc Tryd.prog Tryd.f3 false true false false) := by
  refine returnsInHanded_of_change_and (C := Tryd.checked) (X := fun w _ => laidMetH Tryd.prog Rows.fnExactFractionTextRow.laid w) (fun _ _ _ hh h => h.of_heap hh) own started (by kernel_rfl) Tryd.func3
    (ChangeSpec.witness_shaped (enc := enc) (C := Tryd.checked) (os := os) (X := fun w _ => laidMetH Tryd.prog Rows.fnExactFractionTextRow.laid w) false (World.laidAll Tryd.prog os Rows.fnExactFractionTextRow.laid) #[.agg #[.int .i64 0, .int .i64 0]] 8 (World.laidAll_os _ _ _)
      (World.shaped_of_ZipB (by kernel_rfl) (by kernel_rfl)) (by kernel_rfl) (by kernel_rfl) (by kernel_rfl)
      (by rw [MakeChecks.laidMetH_plain _ _ _ (by kernel_rfl)]; exact laidMet_laidAll _ (by kernel_rfl) (by kernel_rfl))) ?_
  intro W base args ds gs before hval0 hW hcnd hsz0 hL _
  have hval : ∀ (j : Nat) t v, Tryd.f3.params[j]? = some t → args[j]? = some v → Value.okWide Tryd.prog W .any base t v := hval0
  have hW' := hW
  obtain ⟨p, q, hA0, hV, rfl, hfz, hnd⟩ := hW
  have hA : DataW.TrodAll enc Tryd.prog W 0 (fun _ => true) true Tryd.f3.params.toList args.toList ds p := hA0
  rw [Tryd.params3] at hA hval
  obtain ⟨v0, vs0, d0, ds0, p0, q0, hargs, rfl, rfl, h0, r0⟩ := trodAll_cons hA
  obtain ⟨rfl, rfl, rfl⟩ := trodAll_nil r0
  obtain rfl : args = #[v0] := by cases args; simp_all
  obtain ⟨rfl, rfl⟩ := trodVars_none hV
  obtain ⟨a0_0, a0_1, rfl, rfl, rfl, w0_0, w0_1⟩ := opens23 (hval 0 23 v0 rfl rfl) h0
  have hL1 : laidMet Tryd.prog [("math/bits.deBruijn32tab", Rows.laid_math_bits_deBruijn32tab), ("math/bits.deBruijn64tab", Rows.laid_math_bits_deBruijn64tab), ("internal/strconv.uint64pow10", Rows.laid_internal_strconv_uint64pow10)] W := by
    have q_ := hL; rw [MakeChecks.laidMetH_plain _ _ _ (by kernel_rfl)] at q_; exact q_
  have hTa : laidMet Tryd.prog (("internal/strconv.uint64pow10", Lib.tabData .u64 Lib.pow10Tab) :: []) W := by
    rw [← tab_eq]; exact hL1.tail.tail
  have hT_ : Tryd.Tab W := Lib.tabIs_of_head (g := 0) (t := 91) (n := 20) (by kernel_rfl) (by kernel_rfl) Tryd.underlying91 Tryd.underlying81 (by kernel_rfl) (by kernel_rfl) hTa
  clear hA0 hval0 hsz0
  obtain ⟨k, hk⟩ := Pure.FnExactFractionText a0_0 a0_1 w0_0 w0_1
  refine (PFnExactFractionText.laws_FnExactFractionText.calls k a0_0 a0_1 true W hk hT_).mono fun e W' ⟨he, bel⟩ => ?_
  subst he
  exact ⟨_, rfl, _, _, _, [], _, [], hW', trodAll_mk1 (shut_bool Tryd.underlying4 _), (trodAll_cons_mk (shuts23 w0_0 w0_1) trodAll_mk0), rfl, bel.frame _, fun h => by cases h⟩
theorem holds : Rows.FnExactFractionTextSaid :=
  OpenClaim.holds_of_wide 3 Tryd.f3 rfl rfl rfl rfl rfl rfl rfl ⟨rfl, rfl, rfl, rfl, rfl⟩ rfl rfl rfl rfl rfl (by kernel_rfl) Tryd.func3 (by kernel_rfl)
    (of_decide_eq_true (by kernel_rfl)) (by unfold Func.isWrapper; first | (rw [if_pos (by decide +kernel)]; kernel_rfl) | (rw [if_neg (by decide +kernel)]; exact ⟨rfl, rfl⟩))
    (fun os started H enc _ => lifted os started H enc)
theorem card : Rows.FnExactFractionTextCardSaid :=
  Claim7.holds_tied_plain_at .later [] [.data, .data, .data] true (true, "a3e2260257119fe30c5826dad8ed25cb9dd0f7ccee989671034a85716ec6391e") false holds (fun _ h => by cases h) (by kernel_rfl) (fun _ h => by cases h) fnExactFractionText_row_tie rfl ⟨rfl, rfl⟩ (by kernel_rfl) rfl
    (fun f fn hf hfn => by
      obtain rfl : f = 3 := Option.some.inj ((show Tryd.prog.funcNamed "loop.example/twistedropes/laws.FnExactFractionText" = some 3 by kernel_rfl).symm.trans hf) |>.symm
      obtain rfl : fn = Tryd.f3 := (Option.some.inj (Tryd.func3.symm.trans hfn)).symm
      exact ⟨by kernel_rfl, fun j t ht => by
        rw [Tryd.params3] at ht
        have hm : t ∈ [23] := by simpa using Array.mem_of_getElem? ht
        have hall : ([23].all fun u => !Tryd.prog.wantsStandIn u) = true := by kernel_rfl
        exact (show Tryd.prog.wantsStandIn t = false by simpa using List.all_eq_true.1 hall t hm)⟩)
    (by kernel_rfl)
#print axioms card
end Go.Proofs.YtpjiimlcdifneaaDoor.fnExactFractionText
namespace Go.Proofs.YtpjiimlcdifneaaDoor
theorem fnExactFractionText_holds : Rows.FnExactFractionTextCardSaid := fnExactFractionText.card
end Go.Proofs.YtpjiimlcdifneaaDoor
