/-
  No cell of these rows narrows 'for every input' (looked for: loops, veiled, ifaces, maps, wideKeys, modest, calm, conditions, laid).
  DERIVED. THE GIVEN ROWS OF THIS SEAT. 9 by the template 'for every input the law returns true; each argument reads behind the call as it read before'; 0 by the template 'total and deterministic' (their statements: YtebihngdlokhfaaTotals.lean).
  GIVEN WITH THE SEED: the statements are not yours to turn. If you find one false, say at which input.
  Laid BY PROGRAM, IN A SANDBOX (cutbox-rows.mjs): the forced cells as the released guide's own fill.sh prints them over the translation 62eec8078ee2a807… (all of the seat's roots in one cut). By AI agents, Wed Nov 11 2026. No macro, syntax, notation, axiom, sorry.
-/
import Derived.Test.YtebihngdlokhfaaChecked
import GoSem.Claim
import GoSem.ClaimJoined
import GoSem.ClaimMapViews
import Derived.JoinedTies
import Derived.KernelRfl
namespace Go.Proofs.Ytebihngdlokhfaa
/- THE CELL 'sum', in the pinned program and in every row, IS THE sha256 OF THE DUMP (.gsa) THAT YtebihngdlokhfaaProg.lean LOADS. Nothing in Lean hashes anything: it is a label: what it is worth is what the hold of that sum in a sandbox is worth. -/
noncomputable def Try.pinned : Pinned := { name := "ytebihngdlokhfaa", sum := "62eec8078ee2a807961aa345f143ae578baca197116b0a7b50d11db6e8eb5c52", checked := Try.checked }
namespace Rows
def none {H : Type} : Left H := { results := [], args := [] }

/-- 'laws.FnLowestOf': WHATEVER THE INPUT: true; the input reads as it did. -/
def fnLowestOfSpec : ChangeSpec := { name := "fnLowestOf", fn := fun _ => fun
  | [d] => { results := [.lit (.bool true)], args := [d] }
  | _ => none }
def fnLowestOfRow : OpenClaim := { program := "ytebihngdlokhfaa", sum := "62eec8078ee2a807961aa345f143ae578baca197116b0a7b50d11db6e8eb5c52", func := "loop.example/twistedropes/laws.FnLowestOf", spec := "fnLowestOf", apart := false }
def FnLowestOfSaid : Prop := fnLowestOfRow.holds Try.pinned (OpenSpec.ofChange fnLowestOfSpec)

/-- ITS FALSE NEIGHBOUR: 'it returns false'. Refute it at one input. -/
def fnLowestOfWrong : ChangeSpec := { name := "fnLowestOf", fn := fun _ => fun
  | [d] => { results := [.lit (.bool false)], args := [d] }
  | _ => none }
def FnLowestOfWrongFalsely : Prop := fnLowestOfRow.holds Try.pinned (OpenSpec.ofChange fnLowestOfWrong)

/-- 'laws.FnTermsOk': WHATEVER THE INPUT: true; the input reads as it did. -/
def fnTermsOkSpec : ChangeSpec := { name := "fnTermsOk", fn := fun _ => fun
  | [d] => { results := [.lit (.bool true)], args := [d] }
  | _ => none }
def fnTermsOkRow : OpenClaim := { program := "ytebihngdlokhfaa", sum := "62eec8078ee2a807961aa345f143ae578baca197116b0a7b50d11db6e8eb5c52", func := "loop.example/twistedropes/laws.FnTermsOk", spec := "fnTermsOk", apart := false }
def FnTermsOkSaid : Prop := fnTermsOkRow.holds Try.pinned (OpenSpec.ofChange fnTermsOkSpec)

/-- ITS FALSE NEIGHBOUR: 'it returns false'. Refute it at one input. -/
def fnTermsOkWrong : ChangeSpec := { name := "fnTermsOk", fn := fun _ => fun
  | [d] => { results := [.lit (.bool false)], args := [d] }
  | _ => none }
def FnTermsOkWrongFalsely : Prop := fnTermsOkRow.holds Try.pinned (OpenSpec.ofChange fnTermsOkWrong)

/-- 'laws.FnFractionOk': WHATEVER THE INPUT: true; the input reads as it did. -/
def fnFractionOkSpec : ChangeSpec := { name := "fnFractionOk", fn := fun _ => fun
  | [d] => { results := [.lit (.bool true)], args := [d] }
  | _ => none }
def fnFractionOkRow : OpenClaim := { program := "ytebihngdlokhfaa", sum := "62eec8078ee2a807961aa345f143ae578baca197116b0a7b50d11db6e8eb5c52", func := "loop.example/twistedropes/laws.FnFractionOk", spec := "fnFractionOk", apart := false }
def FnFractionOkSaid : Prop := fnFractionOkRow.holds Try.pinned (OpenSpec.ofChange fnFractionOkSpec)

/-- ITS FALSE NEIGHBOUR: 'it returns false'. Refute it at one input. -/
def fnFractionOkWrong : ChangeSpec := { name := "fnFractionOk", fn := fun _ => fun
  | [d] => { results := [.lit (.bool false)], args := [d] }
  | _ => none }
def FnFractionOkWrongFalsely : Prop := fnFractionOkRow.holds Try.pinned (OpenSpec.ofChange fnFractionOkWrong)

/-- 'laws.FnExactLedBy': WHATEVER THE INPUT: true; the input reads as it did. -/
def fnExactLedBySpec : ChangeSpec := { name := "fnExactLedBy", fn := fun _ => fun
  | [d1, d2] => { results := [.lit (.bool true)], args := [d1, d2] }
  | _ => none }
def fnExactLedByRow : OpenClaim := { program := "ytebihngdlokhfaa", sum := "62eec8078ee2a807961aa345f143ae578baca197116b0a7b50d11db6e8eb5c52", func := "loop.example/twistedropes/laws.FnExactLedBy", spec := "fnExactLedBy", apart := false }
def FnExactLedBySaid : Prop := fnExactLedByRow.holds Try.pinned (OpenSpec.ofChange fnExactLedBySpec)

/-- ITS FALSE NEIGHBOUR: 'it returns false'. Refute it at one input. -/
def fnExactLedByWrong : ChangeSpec := { name := "fnExactLedBy", fn := fun _ => fun
  | [d1, d2] => { results := [.lit (.bool false)], args := [d1, d2] }
  | _ => none }
def FnExactLedByWrongFalsely : Prop := fnExactLedByRow.holds Try.pinned (OpenSpec.ofChange fnExactLedByWrong)

/-- 'laws.FnOverOf': WHATEVER THE INPUT: true; the input reads as it did. -/
def fnOverOfSpec : ChangeSpec := { name := "fnOverOf", fn := fun _ => fun
  | [d] => { results := [.lit (.bool true)], args := [d] }
  | _ => none }
def fnOverOfRow : OpenClaim := { program := "ytebihngdlokhfaa", sum := "62eec8078ee2a807961aa345f143ae578baca197116b0a7b50d11db6e8eb5c52", func := "loop.example/twistedropes/laws.FnOverOf", spec := "fnOverOf", apart := false }
def FnOverOfSaid : Prop := fnOverOfRow.holds Try.pinned (OpenSpec.ofChange fnOverOfSpec)

/-- ITS FALSE NEIGHBOUR: 'it returns false'. Refute it at one input. -/
def fnOverOfWrong : ChangeSpec := { name := "fnOverOf", fn := fun _ => fun
  | [d] => { results := [.lit (.bool false)], args := [d] }
  | _ => none }
def FnOverOfWrongFalsely : Prop := fnOverOfRow.holds Try.pinned (OpenSpec.ofChange fnOverOfWrong)

/-- 'laws.FnLessOk': WHATEVER THE INPUT: true; the input reads as it did. -/
def fnLessOkSpec : ChangeSpec := { name := "fnLessOk", fn := fun _ => fun
  | [d] => { results := [.lit (.bool true)], args := [d] }
  | _ => none }
def fnLessOkRow : OpenClaim := { program := "ytebihngdlokhfaa", sum := "62eec8078ee2a807961aa345f143ae578baca197116b0a7b50d11db6e8eb5c52", func := "loop.example/twistedropes/laws.FnLessOk", spec := "fnLessOk", apart := false }
def FnLessOkSaid : Prop := fnLessOkRow.holds Try.pinned (OpenSpec.ofChange fnLessOkSpec)

/-- ITS FALSE NEIGHBOUR: 'it returns false'. Refute it at one input. -/
def fnLessOkWrong : ChangeSpec := { name := "fnLessOk", fn := fun _ => fun
  | [d] => { results := [.lit (.bool false)], args := [d] }
  | _ => none }
def FnLessOkWrongFalsely : Prop := fnLessOkRow.holds Try.pinned (OpenSpec.ofChange fnLessOkWrong)

/-- 'laws.FnExactEndsFor': WHATEVER THE INPUT: true; the input reads as it did. -/
def fnExactEndsForSpec : ChangeSpec := { name := "fnExactEndsFor", fn := fun _ => fun
  | [d] => { results := [.lit (.bool true)], args := [d] }
  | _ => none }
def fnExactEndsForRow : OpenClaim := { program := "ytebihngdlokhfaa", sum := "62eec8078ee2a807961aa345f143ae578baca197116b0a7b50d11db6e8eb5c52", func := "loop.example/twistedropes/laws.FnExactEndsFor", spec := "fnExactEndsFor", apart := false }
def FnExactEndsForSaid : Prop := fnExactEndsForRow.holds Try.pinned (OpenSpec.ofChange fnExactEndsForSpec)

/-- ITS FALSE NEIGHBOUR: 'it returns false'. Refute it at one input. -/
def fnExactEndsForWrong : ChangeSpec := { name := "fnExactEndsFor", fn := fun _ => fun
  | [d] => { results := [.lit (.bool false)], args := [d] }
  | _ => none }
def FnExactEndsForWrongFalsely : Prop := fnExactEndsForRow.holds Try.pinned (OpenSpec.ofChange fnExactEndsForWrong)

/-- 'laws.FnExactUntiedOf': WHATEVER THE INPUT: true; the input reads as it did. -/
def fnExactUntiedOfSpec : ChangeSpec := { name := "fnExactUntiedOf", fn := fun _ => fun
  | [d] => { results := [.lit (.bool true)], args := [d] }
  | _ => none }
def fnExactUntiedOfRow : OpenClaim := { program := "ytebihngdlokhfaa", sum := "62eec8078ee2a807961aa345f143ae578baca197116b0a7b50d11db6e8eb5c52", func := "loop.example/twistedropes/laws.FnExactUntiedOf", spec := "fnExactUntiedOf", apart := false }
def FnExactUntiedOfSaid : Prop := fnExactUntiedOfRow.holds Try.pinned (OpenSpec.ofChange fnExactUntiedOfSpec)

/-- ITS FALSE NEIGHBOUR: 'it returns false'. Refute it at one input. -/
def fnExactUntiedOfWrong : ChangeSpec := { name := "fnExactUntiedOf", fn := fun _ => fun
  | [d] => { results := [.lit (.bool false)], args := [d] }
  | _ => none }
def FnExactUntiedOfWrongFalsely : Prop := fnExactUntiedOfRow.holds Try.pinned (OpenSpec.ofChange fnExactUntiedOfWrong)

/-- 'laws.FnPlusOf': WHATEVER THE INPUT: true; the input reads as it did. -/
def fnPlusOfSpec : ChangeSpec := { name := "fnPlusOf", fn := fun _ => fun
  | [d] => { results := [.lit (.bool true)], args := [d] }
  | _ => none }
def fnPlusOfRow : OpenClaim := { program := "ytebihngdlokhfaa", sum := "62eec8078ee2a807961aa345f143ae578baca197116b0a7b50d11db6e8eb5c52", func := "loop.example/twistedropes/laws.FnPlusOf", spec := "fnPlusOf", apart := false }
def FnPlusOfSaid : Prop := fnPlusOfRow.holds Try.pinned (OpenSpec.ofChange fnPlusOfSpec)

/-- ITS FALSE NEIGHBOUR: 'it returns false'. Refute it at one input. -/
def fnPlusOfWrong : ChangeSpec := { name := "fnPlusOf", fn := fun _ => fun
  | [d] => { results := [.lit (.bool false)], args := [d] }
  | _ => none }
def FnPlusOfWrongFalsely : Prop := fnPlusOfRow.holds Try.pinned (OpenSpec.ofChange fnPlusOfWrong)

/- THE SECOND FORM. 'bulk': how many values and letters a reading holds, each counted each time it is reached (what is shared counts as often as it is met; a slice's spare places count too). A statement '..UptoSaid' is the law's where the arguments, and the package variables that the reading takes, are together of bulk at most 1048576: NARROWER than '..Said'. Prove '..Said' where nothing that the law and all that it calls make is longer than what came in: it says more and counts as full. Else prove '..UptoSaid'. A law counts once. -/
mutual
def uptoBulk {H : Type} : DataW H → Nat
  | .lit (.string bytes) => bytes.length + 1
  | .lit _ => 1
  | .nil => 1
  | .ptr d => uptoBulk d + 1
  | .slice elems spare => uptoBulkAll elems + uptoBulkAll spare + 1
  | .agg parts => uptoBulkAll parts + 1
  | .iface _ d => uptoBulk d + 1
  | .map entries => uptoBulkEntries entries + 1
  | .held _ => 1
def uptoBulkAll {H : Type} : List (DataW H) → Nat
  | [] => 0
  | d :: r => uptoBulk d + uptoBulkAll r
def uptoBulkEntries {H : Type} : List (Lit × DataW H) → Nat
  | [] => 0
  | x :: r => uptoBulkEntry x + uptoBulkEntries r
def uptoBulkEntry {H : Type} : Lit × DataW H → Nat
  | (.string bytes, d) => bytes.length + uptoBulk d + 1
  | (_, d) => uptoBulk d + 1
 end
def uptoSmall : (H : Type) → List (DataW H) → Bool := fun _ ds => decide (uptoBulkAll ds ≤ 1048576)
def OpenSpec.upto (s : _root_.Go.ChangeSpec) : _root_.Go.OpenSpec := { _root_.Go.OpenSpec.ofChange s with cond := some uptoSmall }

/-- 'laws.FnLowestOf', WHERE WHAT IT READS IS OF BULK AT MOST 1048576: true; the input reads as it did. -/
def fnLowestOfUptoRow : OpenClaim := { program := "ytebihngdlokhfaa", sum := "62eec8078ee2a807961aa345f143ae578baca197116b0a7b50d11db6e8eb5c52", func := "loop.example/twistedropes/laws.FnLowestOf", spec := "fnLowestOf", apart := false, narrowed := true }
def FnLowestOfUptoSaid : Prop := fnLowestOfUptoRow.holds Try.pinned (OpenSpec.upto fnLowestOfSpec)

/-- 'laws.FnTermsOk', WHERE WHAT IT READS IS OF BULK AT MOST 1048576: true; the input reads as it did. -/
def fnTermsOkUptoRow : OpenClaim := { program := "ytebihngdlokhfaa", sum := "62eec8078ee2a807961aa345f143ae578baca197116b0a7b50d11db6e8eb5c52", func := "loop.example/twistedropes/laws.FnTermsOk", spec := "fnTermsOk", apart := false, narrowed := true }
def FnTermsOkUptoSaid : Prop := fnTermsOkUptoRow.holds Try.pinned (OpenSpec.upto fnTermsOkSpec)

/-- 'laws.FnFractionOk', WHERE WHAT IT READS IS OF BULK AT MOST 1048576: true; the input reads as it did. -/
def fnFractionOkUptoRow : OpenClaim := { program := "ytebihngdlokhfaa", sum := "62eec8078ee2a807961aa345f143ae578baca197116b0a7b50d11db6e8eb5c52", func := "loop.example/twistedropes/laws.FnFractionOk", spec := "fnFractionOk", apart := false, narrowed := true }
def FnFractionOkUptoSaid : Prop := fnFractionOkUptoRow.holds Try.pinned (OpenSpec.upto fnFractionOkSpec)

/-- 'laws.FnExactLedBy', WHERE WHAT IT READS IS OF BULK AT MOST 1048576: true; the input reads as it did. -/
def fnExactLedByUptoRow : OpenClaim := { program := "ytebihngdlokhfaa", sum := "62eec8078ee2a807961aa345f143ae578baca197116b0a7b50d11db6e8eb5c52", func := "loop.example/twistedropes/laws.FnExactLedBy", spec := "fnExactLedBy", apart := false, narrowed := true }
def FnExactLedByUptoSaid : Prop := fnExactLedByUptoRow.holds Try.pinned (OpenSpec.upto fnExactLedBySpec)

/-- 'laws.FnOverOf', WHERE WHAT IT READS IS OF BULK AT MOST 1048576: true; the input reads as it did. -/
def fnOverOfUptoRow : OpenClaim := { program := "ytebihngdlokhfaa", sum := "62eec8078ee2a807961aa345f143ae578baca197116b0a7b50d11db6e8eb5c52", func := "loop.example/twistedropes/laws.FnOverOf", spec := "fnOverOf", apart := false, narrowed := true }
def FnOverOfUptoSaid : Prop := fnOverOfUptoRow.holds Try.pinned (OpenSpec.upto fnOverOfSpec)

/-- 'laws.FnLessOk', WHERE WHAT IT READS IS OF BULK AT MOST 1048576: true; the input reads as it did. -/
def fnLessOkUptoRow : OpenClaim := { program := "ytebihngdlokhfaa", sum := "62eec8078ee2a807961aa345f143ae578baca197116b0a7b50d11db6e8eb5c52", func := "loop.example/twistedropes/laws.FnLessOk", spec := "fnLessOk", apart := false, narrowed := true }
def FnLessOkUptoSaid : Prop := fnLessOkUptoRow.holds Try.pinned (OpenSpec.upto fnLessOkSpec)

/-- 'laws.FnExactEndsFor', WHERE WHAT IT READS IS OF BULK AT MOST 1048576: true; the input reads as it did. -/
def fnExactEndsForUptoRow : OpenClaim := { program := "ytebihngdlokhfaa", sum := "62eec8078ee2a807961aa345f143ae578baca197116b0a7b50d11db6e8eb5c52", func := "loop.example/twistedropes/laws.FnExactEndsFor", spec := "fnExactEndsFor", apart := false, narrowed := true }
def FnExactEndsForUptoSaid : Prop := fnExactEndsForUptoRow.holds Try.pinned (OpenSpec.upto fnExactEndsForSpec)

/-- 'laws.FnExactUntiedOf', WHERE WHAT IT READS IS OF BULK AT MOST 1048576: true; the input reads as it did. -/
def fnExactUntiedOfUptoRow : OpenClaim := { program := "ytebihngdlokhfaa", sum := "62eec8078ee2a807961aa345f143ae578baca197116b0a7b50d11db6e8eb5c52", func := "loop.example/twistedropes/laws.FnExactUntiedOf", spec := "fnExactUntiedOf", apart := false, narrowed := true }
def FnExactUntiedOfUptoSaid : Prop := fnExactUntiedOfUptoRow.holds Try.pinned (OpenSpec.upto fnExactUntiedOfSpec)

/-- 'laws.FnPlusOf', WHERE WHAT IT READS IS OF BULK AT MOST 1048576: true; the input reads as it did. -/
def fnPlusOfUptoRow : OpenClaim := { program := "ytebihngdlokhfaa", sum := "62eec8078ee2a807961aa345f143ae578baca197116b0a7b50d11db6e8eb5c52", func := "loop.example/twistedropes/laws.FnPlusOf", spec := "fnPlusOf", apart := false, narrowed := true }
def FnPlusOfUptoSaid : Prop := fnPlusOfUptoRow.holds Try.pinned (OpenSpec.upto fnPlusOfSpec)

end Rows
end Go.Proofs.Ytebihngdlokhfaa
