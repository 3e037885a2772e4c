/-
  No cell of these rows narrows 'for every input' (looked for: loops, veiled, ifaces, maps, wideKeys, modest, calm, conditions, laid).
  DERIVED. THE GIVEN ROWS OF THIS SEAT. 12 by the template 'for every input the law returns true; each argument reads behind the call as it read before'; 0 by the template 'total and deterministic' (their statements: YtmckeejjddablaaTotals.lean).
  GIVEN WITH THE SEED: the statements are not yours to turn. If you find one false, say at which input.
  Laid BY PROGRAM, IN A SANDBOX (cutbox-rows.mjs): the forced cells as the released guide's own fill.sh prints them over the translation 2e57dc62dc4a9252… (all of the seat's roots in one cut). By AI agents, Wed Nov 11 2026. No macro, syntax, notation, axiom, sorry.
-/
import Derived.Test.YtmckeejjddablaaChecked
import GoSem.Claim
import GoSem.ClaimJoined
import GoSem.ClaimMapViews
import Derived.JoinedTies
import Derived.KernelRfl
namespace Go.Proofs.Ytmckeejjddablaa
/- THE CELL 'sum', in the pinned program and in every row, IS THE sha256 OF THE DUMP (.gsa) THAT YtmckeejjddablaaProg.lean LOADS. Nothing in Lean hashes anything: it is a label: what it is worth is what the hold of that sum in a sandbox is worth. -/
noncomputable def Try.pinned : Pinned := { name := "ytmckeejjddablaa", sum := "2e57dc62dc4a92527d7c30f8301082d1a0a6e119ea9e08cb130623b7c0f7b56b", checked := Try.checked }
namespace Rows
def none {H : Type} : Left H := { results := [], args := [] }

/-- 'laws.FnExactStepsOf': WHATEVER THE INPUT: true; the input reads as it did. -/
def fnExactStepsOfSpec : ChangeSpec := { name := "fnExactStepsOf", fn := fun _ => fun
  | [d] => { results := [.lit (.bool true)], args := [d] }
  | _ => none }
def fnExactStepsOfRow : OpenClaim := { program := "ytmckeejjddablaa", sum := "2e57dc62dc4a92527d7c30f8301082d1a0a6e119ea9e08cb130623b7c0f7b56b", func := "loop.example/twistedropes/laws.FnExactStepsOf", spec := "fnExactStepsOf", apart := false }
def FnExactStepsOfSaid : Prop := fnExactStepsOfRow.holds Try.pinned (OpenSpec.ofChange fnExactStepsOfSpec)

/-- ITS FALSE NEIGHBOUR: 'it returns false'. Refute it at one input. -/
def fnExactStepsOfWrong : ChangeSpec := { name := "fnExactStepsOf", fn := fun _ => fun
  | [d] => { results := [.lit (.bool false)], args := [d] }
  | _ => none }
def FnExactStepsOfWrongFalsely : Prop := fnExactStepsOfRow.holds Try.pinned (OpenSpec.ofChange fnExactStepsOfWrong)

/-- 'laws.FnExactTermsOf': WHATEVER THE INPUT: true; the input reads as it did. -/
def fnExactTermsOfSpec : ChangeSpec := { name := "fnExactTermsOf", fn := fun _ => fun
  | [d] => { results := [.lit (.bool true)], args := [d] }
  | _ => none }
def fnExactTermsOfRow : OpenClaim := { program := "ytmckeejjddablaa", sum := "2e57dc62dc4a92527d7c30f8301082d1a0a6e119ea9e08cb130623b7c0f7b56b", func := "loop.example/twistedropes/laws.FnExactTermsOf", spec := "fnExactTermsOf", apart := false }
def FnExactTermsOfSaid : Prop := fnExactTermsOfRow.holds Try.pinned (OpenSpec.ofChange fnExactTermsOfSpec)

/-- ITS FALSE NEIGHBOUR: 'it returns false'. Refute it at one input. -/
def fnExactTermsOfWrong : ChangeSpec := { name := "fnExactTermsOf", fn := fun _ => fun
  | [d] => { results := [.lit (.bool false)], args := [d] }
  | _ => none }
def FnExactTermsOfWrongFalsely : Prop := fnExactTermsOfRow.holds Try.pinned (OpenSpec.ofChange fnExactTermsOfWrong)

/-- 'laws.FnRingsOf': WHATEVER THE INPUT: true; the input reads as it did. -/
def fnRingsOfSpec : ChangeSpec := { name := "fnRingsOf", fn := fun _ => fun
  | [d] => { results := [.lit (.bool true)], args := [d] }
  | _ => none }
def fnRingsOfRow : OpenClaim := { program := "ytmckeejjddablaa", sum := "2e57dc62dc4a92527d7c30f8301082d1a0a6e119ea9e08cb130623b7c0f7b56b", func := "loop.example/twistedropes/laws.FnRingsOf", spec := "fnRingsOf", apart := false }
def FnRingsOfSaid : Prop := fnRingsOfRow.holds Try.pinned (OpenSpec.ofChange fnRingsOfSpec)

/-- ITS FALSE NEIGHBOUR: 'it returns false'. Refute it at one input. -/
def fnRingsOfWrong : ChangeSpec := { name := "fnRingsOf", fn := fun _ => fun
  | [d] => { results := [.lit (.bool false)], args := [d] }
  | _ => none }
def FnRingsOfWrongFalsely : Prop := fnRingsOfRow.holds Try.pinned (OpenSpec.ofChange fnRingsOfWrong)

/-- 'laws.FnKindOf': WHATEVER THE INPUT: true; the input reads as it did. -/
def fnKindOfSpec : ChangeSpec := { name := "fnKindOf", fn := fun _ => fun
  | [d] => { results := [.lit (.bool true)], args := [d] }
  | _ => none }
def fnKindOfRow : OpenClaim := { program := "ytmckeejjddablaa", sum := "2e57dc62dc4a92527d7c30f8301082d1a0a6e119ea9e08cb130623b7c0f7b56b", func := "loop.example/twistedropes/laws.FnKindOf", spec := "fnKindOf", apart := false }
def FnKindOfSaid : Prop := fnKindOfRow.holds Try.pinned (OpenSpec.ofChange fnKindOfSpec)

/-- ITS FALSE NEIGHBOUR: 'it returns false'. Refute it at one input. -/
def fnKindOfWrong : ChangeSpec := { name := "fnKindOf", fn := fun _ => fun
  | [d] => { results := [.lit (.bool false)], args := [d] }
  | _ => none }
def FnKindOfWrongFalsely : Prop := fnKindOfRow.holds Try.pinned (OpenSpec.ofChange fnKindOfWrong)

/-- 'laws.FnExactOfTerms': WHATEVER THE INPUT: true; the input reads as it did. -/
def fnExactOfTermsSpec : ChangeSpec := { name := "fnExactOfTerms", fn := fun _ => fun
  | [d] => { results := [.lit (.bool true)], args := [d] }
  | _ => none }
def fnExactOfTermsRow : OpenClaim := { program := "ytmckeejjddablaa", sum := "2e57dc62dc4a92527d7c30f8301082d1a0a6e119ea9e08cb130623b7c0f7b56b", func := "loop.example/twistedropes/laws.FnExactOfTerms", spec := "fnExactOfTerms", apart := false }
def FnExactOfTermsSaid : Prop := fnExactOfTermsRow.holds Try.pinned (OpenSpec.ofChange fnExactOfTermsSpec)

/-- ITS FALSE NEIGHBOUR: 'it returns false'. Refute it at one input. -/
def fnExactOfTermsWrong : ChangeSpec := { name := "fnExactOfTerms", fn := fun _ => fun
  | [d] => { results := [.lit (.bool false)], args := [d] }
  | _ => none }
def FnExactOfTermsWrongFalsely : Prop := fnExactOfTermsRow.holds Try.pinned (OpenSpec.ofChange fnExactOfTermsWrong)

/-- 'laws.FnMapOk': WHATEVER THE INPUT: true; the input reads as it did. -/
def fnMapOkSpec : ChangeSpec := { name := "fnMapOk", fn := fun _ => fun
  | [d] => { results := [.lit (.bool true)], args := [d] }
  | _ => none }
def fnMapOkRow : OpenClaim := { program := "ytmckeejjddablaa", sum := "2e57dc62dc4a92527d7c30f8301082d1a0a6e119ea9e08cb130623b7c0f7b56b", func := "loop.example/twistedropes/laws.FnMapOk", spec := "fnMapOk", apart := false }
def FnMapOkSaid : Prop := fnMapOkRow.holds Try.pinned (OpenSpec.ofChange fnMapOkSpec)

/-- ITS FALSE NEIGHBOUR: 'it returns false'. Refute it at one input. -/
def fnMapOkWrong : ChangeSpec := { name := "fnMapOk", fn := fun _ => fun
  | [d] => { results := [.lit (.bool false)], args := [d] }
  | _ => none }
def FnMapOkWrongFalsely : Prop := fnMapOkRow.holds Try.pinned (OpenSpec.ofChange fnMapOkWrong)

/-- 'laws.FnEndsFor': WHATEVER THE INPUT: true; the input reads as it did. -/
def fnEndsForSpec : ChangeSpec := { name := "fnEndsFor", fn := fun _ => fun
  | [d] => { results := [.lit (.bool true)], args := [d] }
  | _ => none }
def fnEndsForRow : OpenClaim := { program := "ytmckeejjddablaa", sum := "2e57dc62dc4a92527d7c30f8301082d1a0a6e119ea9e08cb130623b7c0f7b56b", func := "loop.example/twistedropes/laws.FnEndsFor", spec := "fnEndsFor", apart := false }
def FnEndsForSaid : Prop := fnEndsForRow.holds Try.pinned (OpenSpec.ofChange fnEndsForSpec)

/-- ITS FALSE NEIGHBOUR: 'it returns false'. Refute it at one input. -/
def fnEndsForWrong : ChangeSpec := { name := "fnEndsFor", fn := fun _ => fun
  | [d] => { results := [.lit (.bool false)], args := [d] }
  | _ => none }
def FnEndsForWrongFalsely : Prop := fnEndsForRow.holds Try.pinned (OpenSpec.ofChange fnEndsForWrong)

/-- 'laws.FnBehindOf': WHATEVER THE INPUT: true; the input reads as it did. -/
def fnBehindOfSpec : ChangeSpec := { name := "fnBehindOf", fn := fun _ => fun
  | [d] => { results := [.lit (.bool true)], args := [d] }
  | _ => none }
def fnBehindOfRow : OpenClaim := { program := "ytmckeejjddablaa", sum := "2e57dc62dc4a92527d7c30f8301082d1a0a6e119ea9e08cb130623b7c0f7b56b", func := "loop.example/twistedropes/laws.FnBehindOf", spec := "fnBehindOf", apart := false }
def FnBehindOfSaid : Prop := fnBehindOfRow.holds Try.pinned (OpenSpec.ofChange fnBehindOfSpec)

/-- ITS FALSE NEIGHBOUR: 'it returns false'. Refute it at one input. -/
def fnBehindOfWrong : ChangeSpec := { name := "fnBehindOf", fn := fun _ => fun
  | [d] => { results := [.lit (.bool false)], args := [d] }
  | _ => none }
def FnBehindOfWrongFalsely : Prop := fnBehindOfRow.holds Try.pinned (OpenSpec.ofChange fnBehindOfWrong)

/-- 'laws.FnLedBy': WHATEVER THE INPUT: true; the input reads as it did. -/
def fnLedBySpec : ChangeSpec := { name := "fnLedBy", fn := fun _ => fun
  | [d] => { results := [.lit (.bool true)], args := [d] }
  | _ => none }
def fnLedByRow : OpenClaim := { program := "ytmckeejjddablaa", sum := "2e57dc62dc4a92527d7c30f8301082d1a0a6e119ea9e08cb130623b7c0f7b56b", func := "loop.example/twistedropes/laws.FnLedBy", spec := "fnLedBy", apart := false }
def FnLedBySaid : Prop := fnLedByRow.holds Try.pinned (OpenSpec.ofChange fnLedBySpec)

/-- ITS FALSE NEIGHBOUR: 'it returns false'. Refute it at one input. -/
def fnLedByWrong : ChangeSpec := { name := "fnLedBy", fn := fun _ => fun
  | [d] => { results := [.lit (.bool false)], args := [d] }
  | _ => none }
def FnLedByWrongFalsely : Prop := fnLedByRow.holds Try.pinned (OpenSpec.ofChange fnLedByWrong)

/-- 'laws.FnOrderOf': WHATEVER THE INPUT: true; the input reads as it did. -/
def fnOrderOfSpec : ChangeSpec := { name := "fnOrderOf", fn := fun _ => fun
  | [d] => { results := [.lit (.bool true)], args := [d] }
  | _ => none }
def fnOrderOfRow : OpenClaim := { program := "ytmckeejjddablaa", sum := "2e57dc62dc4a92527d7c30f8301082d1a0a6e119ea9e08cb130623b7c0f7b56b", func := "loop.example/twistedropes/laws.FnOrderOf", spec := "fnOrderOf", apart := false }
def FnOrderOfSaid : Prop := fnOrderOfRow.holds Try.pinned (OpenSpec.ofChange fnOrderOfSpec)

/-- ITS FALSE NEIGHBOUR: 'it returns false'. Refute it at one input. -/
def fnOrderOfWrong : ChangeSpec := { name := "fnOrderOf", fn := fun _ => fun
  | [d] => { results := [.lit (.bool false)], args := [d] }
  | _ => none }
def FnOrderOfWrongFalsely : Prop := fnOrderOfRow.holds Try.pinned (OpenSpec.ofChange fnOrderOfWrong)

/-- 'laws.FnTermsOf': WHATEVER THE INPUT: true; the input reads as it did. -/
def fnTermsOfSpec : ChangeSpec := { name := "fnTermsOf", fn := fun _ => fun
  | [d] => { results := [.lit (.bool true)], args := [d] }
  | _ => none }
def fnTermsOfRow : OpenClaim := { program := "ytmckeejjddablaa", sum := "2e57dc62dc4a92527d7c30f8301082d1a0a6e119ea9e08cb130623b7c0f7b56b", func := "loop.example/twistedropes/laws.FnTermsOf", spec := "fnTermsOf", apart := false }
def FnTermsOfSaid : Prop := fnTermsOfRow.holds Try.pinned (OpenSpec.ofChange fnTermsOfSpec)

/-- ITS FALSE NEIGHBOUR: 'it returns false'. Refute it at one input. -/
def fnTermsOfWrong : ChangeSpec := { name := "fnTermsOf", fn := fun _ => fun
  | [d] => { results := [.lit (.bool false)], args := [d] }
  | _ => none }
def FnTermsOfWrongFalsely : Prop := fnTermsOfRow.holds Try.pinned (OpenSpec.ofChange fnTermsOfWrong)

/-- 'laws.FnOfTerms': WHATEVER THE INPUT: true; the input reads as it did. -/
def fnOfTermsSpec : ChangeSpec := { name := "fnOfTerms", fn := fun _ => fun
  | [d] => { results := [.lit (.bool true)], args := [d] }
  | _ => none }
def fnOfTermsRow : OpenClaim := { program := "ytmckeejjddablaa", sum := "2e57dc62dc4a92527d7c30f8301082d1a0a6e119ea9e08cb130623b7c0f7b56b", func := "loop.example/twistedropes/laws.FnOfTerms", spec := "fnOfTerms", apart := false }
def FnOfTermsSaid : Prop := fnOfTermsRow.holds Try.pinned (OpenSpec.ofChange fnOfTermsSpec)

/-- ITS FALSE NEIGHBOUR: 'it returns false'. Refute it at one input. -/
def fnOfTermsWrong : ChangeSpec := { name := "fnOfTerms", fn := fun _ => fun
  | [d] => { results := [.lit (.bool false)], args := [d] }
  | _ => none }
def FnOfTermsWrongFalsely : Prop := fnOfTermsRow.holds Try.pinned (OpenSpec.ofChange fnOfTermsWrong)

/- THE SECOND FORM. 'bulk': how many values and letters a reading holds, each counted each time it is reached (what is shared counts as often as it is met; a slice's spare places count too). A statement '..UptoSaid' is the law's where the arguments, and the package variables that the reading takes, are together of bulk at most 1048576: NARROWER than '..Said'. Prove '..Said' where nothing that the law and all that it calls make is longer than what came in: it says more and counts as full. Else prove '..UptoSaid'. A law counts once. -/
mutual
def uptoBulk {H : Type} : DataW H → Nat
  | .lit (.string bytes) => bytes.length + 1
  | .lit _ => 1
  | .nil => 1
  | .ptr d => uptoBulk d + 1
  | .slice elems spare => uptoBulkAll elems + uptoBulkAll spare + 1
  | .agg parts => uptoBulkAll parts + 1
  | .iface _ d => uptoBulk d + 1
  | .map entries => uptoBulkEntries entries + 1
  | .held _ => 1
def uptoBulkAll {H : Type} : List (DataW H) → Nat
  | [] => 0
  | d :: r => uptoBulk d + uptoBulkAll r
def uptoBulkEntries {H : Type} : List (Lit × DataW H) → Nat
  | [] => 0
  | x :: r => uptoBulkEntry x + uptoBulkEntries r
def uptoBulkEntry {H : Type} : Lit × DataW H → Nat
  | (.string bytes, d) => bytes.length + uptoBulk d + 1
  | (_, d) => uptoBulk d + 1
 end
def uptoSmall : (H : Type) → List (DataW H) → Bool := fun _ ds => decide (uptoBulkAll ds ≤ 1048576)
def OpenSpec.upto (s : _root_.Go.ChangeSpec) : _root_.Go.OpenSpec := { _root_.Go.OpenSpec.ofChange s with cond := some uptoSmall }

/-- 'laws.FnExactStepsOf', WHERE WHAT IT READS IS OF BULK AT MOST 1048576: true; the input reads as it did. -/
def fnExactStepsOfUptoRow : OpenClaim := { program := "ytmckeejjddablaa", sum := "2e57dc62dc4a92527d7c30f8301082d1a0a6e119ea9e08cb130623b7c0f7b56b", func := "loop.example/twistedropes/laws.FnExactStepsOf", spec := "fnExactStepsOf", apart := false, narrowed := true }
def FnExactStepsOfUptoSaid : Prop := fnExactStepsOfUptoRow.holds Try.pinned (OpenSpec.upto fnExactStepsOfSpec)

/-- 'laws.FnExactTermsOf', WHERE WHAT IT READS IS OF BULK AT MOST 1048576: true; the input reads as it did. -/
def fnExactTermsOfUptoRow : OpenClaim := { program := "ytmckeejjddablaa", sum := "2e57dc62dc4a92527d7c30f8301082d1a0a6e119ea9e08cb130623b7c0f7b56b", func := "loop.example/twistedropes/laws.FnExactTermsOf", spec := "fnExactTermsOf", apart := false, narrowed := true }
def FnExactTermsOfUptoSaid : Prop := fnExactTermsOfUptoRow.holds Try.pinned (OpenSpec.upto fnExactTermsOfSpec)

/-- 'laws.FnRingsOf', WHERE WHAT IT READS IS OF BULK AT MOST 1048576: true; the input reads as it did. -/
def fnRingsOfUptoRow : OpenClaim := { program := "ytmckeejjddablaa", sum := "2e57dc62dc4a92527d7c30f8301082d1a0a6e119ea9e08cb130623b7c0f7b56b", func := "loop.example/twistedropes/laws.FnRingsOf", spec := "fnRingsOf", apart := false, narrowed := true }
def FnRingsOfUptoSaid : Prop := fnRingsOfUptoRow.holds Try.pinned (OpenSpec.upto fnRingsOfSpec)

/-- 'laws.FnKindOf', WHERE WHAT IT READS IS OF BULK AT MOST 1048576: true; the input reads as it did. -/
def fnKindOfUptoRow : OpenClaim := { program := "ytmckeejjddablaa", sum := "2e57dc62dc4a92527d7c30f8301082d1a0a6e119ea9e08cb130623b7c0f7b56b", func := "loop.example/twistedropes/laws.FnKindOf", spec := "fnKindOf", apart := false, narrowed := true }
def FnKindOfUptoSaid : Prop := fnKindOfUptoRow.holds Try.pinned (OpenSpec.upto fnKindOfSpec)

/-- 'laws.FnExactOfTerms', WHERE WHAT IT READS IS OF BULK AT MOST 1048576: true; the input reads as it did. -/
def fnExactOfTermsUptoRow : OpenClaim := { program := "ytmckeejjddablaa", sum := "2e57dc62dc4a92527d7c30f8301082d1a0a6e119ea9e08cb130623b7c0f7b56b", func := "loop.example/twistedropes/laws.FnExactOfTerms", spec := "fnExactOfTerms", apart := false, narrowed := true }
def FnExactOfTermsUptoSaid : Prop := fnExactOfTermsUptoRow.holds Try.pinned (OpenSpec.upto fnExactOfTermsSpec)

/-- 'laws.FnMapOk', WHERE WHAT IT READS IS OF BULK AT MOST 1048576: true; the input reads as it did. -/
def fnMapOkUptoRow : OpenClaim := { program := "ytmckeejjddablaa", sum := "2e57dc62dc4a92527d7c30f8301082d1a0a6e119ea9e08cb130623b7c0f7b56b", func := "loop.example/twistedropes/laws.FnMapOk", spec := "fnMapOk", apart := false, narrowed := true }
def FnMapOkUptoSaid : Prop := fnMapOkUptoRow.holds Try.pinned (OpenSpec.upto fnMapOkSpec)

/-- 'laws.FnEndsFor', WHERE WHAT IT READS IS OF BULK AT MOST 1048576: true; the input reads as it did. -/
def fnEndsForUptoRow : OpenClaim := { program := "ytmckeejjddablaa", sum := "2e57dc62dc4a92527d7c30f8301082d1a0a6e119ea9e08cb130623b7c0f7b56b", func := "loop.example/twistedropes/laws.FnEndsFor", spec := "fnEndsFor", apart := false, narrowed := true }
def FnEndsForUptoSaid : Prop := fnEndsForUptoRow.holds Try.pinned (OpenSpec.upto fnEndsForSpec)

/-- 'laws.FnBehindOf', WHERE WHAT IT READS IS OF BULK AT MOST 1048576: true; the input reads as it did. -/
def fnBehindOfUptoRow : OpenClaim := { program := "ytmckeejjddablaa", sum := "2e57dc62dc4a92527d7c30f8301082d1a0a6e119ea9e08cb130623b7c0f7b56b", func := "loop.example/twistedropes/laws.FnBehindOf", spec := "fnBehindOf", apart := false, narrowed := true }
def FnBehindOfUptoSaid : Prop := fnBehindOfUptoRow.holds Try.pinned (OpenSpec.upto fnBehindOfSpec)

/-- 'laws.FnLedBy', WHERE WHAT IT READS IS OF BULK AT MOST 1048576: true; the input reads as it did. -/
def fnLedByUptoRow : OpenClaim := { program := "ytmckeejjddablaa", sum := "2e57dc62dc4a92527d7c30f8301082d1a0a6e119ea9e08cb130623b7c0f7b56b", func := "loop.example/twistedropes/laws.FnLedBy", spec := "fnLedBy", apart := false, narrowed := true }
def FnLedByUptoSaid : Prop := fnLedByUptoRow.holds Try.pinned (OpenSpec.upto fnLedBySpec)

/-- 'laws.FnOrderOf', WHERE WHAT IT READS IS OF BULK AT MOST 1048576: true; the input reads as it did. -/
def fnOrderOfUptoRow : OpenClaim := { program := "ytmckeejjddablaa", sum := "2e57dc62dc4a92527d7c30f8301082d1a0a6e119ea9e08cb130623b7c0f7b56b", func := "loop.example/twistedropes/laws.FnOrderOf", spec := "fnOrderOf", apart := false, narrowed := true }
def FnOrderOfUptoSaid : Prop := fnOrderOfUptoRow.holds Try.pinned (OpenSpec.upto fnOrderOfSpec)

/-- 'laws.FnTermsOf', WHERE WHAT IT READS IS OF BULK AT MOST 1048576: true; the input reads as it did. -/
def fnTermsOfUptoRow : OpenClaim := { program := "ytmckeejjddablaa", sum := "2e57dc62dc4a92527d7c30f8301082d1a0a6e119ea9e08cb130623b7c0f7b56b", func := "loop.example/twistedropes/laws.FnTermsOf", spec := "fnTermsOf", apart := false, narrowed := true }
def FnTermsOfUptoSaid : Prop := fnTermsOfUptoRow.holds Try.pinned (OpenSpec.upto fnTermsOfSpec)

/-- 'laws.FnOfTerms', WHERE WHAT IT READS IS OF BULK AT MOST 1048576: true; the input reads as it did. -/
def fnOfTermsUptoRow : OpenClaim := { program := "ytmckeejjddablaa", sum := "2e57dc62dc4a92527d7c30f8301082d1a0a6e119ea9e08cb130623b7c0f7b56b", func := "loop.example/twistedropes/laws.FnOfTerms", spec := "fnOfTerms", apart := false, narrowed := true }
def FnOfTermsUptoSaid : Prop := fnOfTermsUptoRow.holds Try.pinned (OpenSpec.upto fnOfTermsSpec)

end Rows
end Go.Proofs.Ytmckeejjddablaa
