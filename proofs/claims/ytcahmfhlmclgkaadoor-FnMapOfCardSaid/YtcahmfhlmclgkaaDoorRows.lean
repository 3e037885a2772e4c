/-
  NARROWER THAN 'FOR EVERY INPUT', by the rows' own cells (each row's printed sentence says how): FnExactSameOk: laid · FnExactDancedFrom: laid · FnExactLongFrom: laid · FnShortenedOf: laid · FnDancedOf: laid · FnEndsAfter: laid · FnUntiedOf: laid · FnStepsOf: laid · FnDancedFrom: laid · FnLongFrom: laid · FnMapOf: laid · FnSameOk: laid.
  DERIVED. THE GIVEN ROWS OF THIS SEAT. 12 by the template 'for every input the law returns true; each argument reads behind the call as it read before'; 0 by the template 'total and deterministic' (their statements: YtcahmfhlmclgkaaDoorTotals.lean).
  GIVEN WITH THE SEED: the statements are not yours to turn. If you find one false, say at which input.
  Laid BY PROGRAM, IN A SANDBOX (cutbox-rows.mjs): the forced cells as the released guide's own fill.sh prints them over the translation fa222abe6f2e7bbe… (all of the seat's roots in one cut). By AI agents, Wed Nov 11 2026. No macro, syntax, notation, axiom, sorry.
-/
import Derived.Test.YtcahmfhlmclgkaaDoorChecked
import GoSem.PinnedTables
import GoSem.Claim
import GoSem.ClaimJoined
import GoSem.ClaimMapViews
import Derived.JoinedTies
import Derived.KernelRfl
namespace Go.Proofs.YtcahmfhlmclgkaaDoor
/- THE CELL 'sum', in the pinned program and in every row, IS THE sha256 OF THE DUMP (.gsa) THAT YtcahmfhlmclgkaaDoorProg.lean LOADS. Nothing in Lean hashes anything: it is a label: what it is worth is what the hold of that sum in a sandbox is worth. -/
noncomputable def Tryd.pinned : Pinned := { name := "ytcahmfhlmclgkaadoor", sum := "fa222abe6f2e7bbef11981bfb956c95c690ea154ef5617fa915f5ae922a93f08", checked := Tryd.checked }
namespace Rows
def none {H : Type} : Left H := { results := [], args := [] }

/- WHAT THE LISTED PACKAGE-LEVEL VARIABLES READ AS WHEN THE CALL BEGINS. Each datum BY PROGRAM (the guide's laid-datum.mjs) off the statement by which the dump's own 'gosem.cut.vars' lays the variable. In a bare row this is a premise. The card (YtcahmfhlmclgkaaDoorCards.lean) ties it to the program's text. -/
def laid_unicode_utf8_acceptRanges {H : Type} : DataW H := .agg [.agg [.lit (.int .u8 128), .lit (.int .u8 191)], .agg [.lit (.int .u8 160), .lit (.int .u8 191)], .agg [.lit (.int .u8 128), .lit (.int .u8 159)], .agg [.lit (.int .u8 144), .lit (.int .u8 191)], .agg [.lit (.int .u8 128), .lit (.int .u8 143)], .agg [.lit (.int .u8 0), .lit (.int .u8 0)], .agg [.lit (.int .u8 0), .lit (.int .u8 0)], .agg [.lit (.int .u8 0), .lit (.int .u8 0)], .agg [.lit (.int .u8 0), .lit (.int .u8 0)], .agg [.lit (.int .u8 0), .lit (.int .u8 0)], .agg [.lit (.int .u8 0), .lit (.int .u8 0)], .agg [.lit (.int .u8 0), .lit (.int .u8 0)], .agg [.lit (.int .u8 0), .lit (.int .u8 0)], .agg [.lit (.int .u8 0), .lit (.int .u8 0)], .agg [.lit (.int .u8 0), .lit (.int .u8 0)], .agg [.lit (.int .u8 0), .lit (.int .u8 0)]]
/-- One of Go's own tables, pinned by name: the form's constant. -/
def laid_unicode_utf8_first : DataW Unit := Go.Pinned.utf8First

/-- 'laws.FnExactSameOk': WHATEVER THE INPUT: true; the input reads as it did. -/
def fnExactSameOkSpec : ChangeSpec := { name := "fnExactSameOk", fn := fun _ => fun
  | [d1, d2] => { results := [.lit (.bool true)], args := [d1, d2] }
  | _ => none }
def fnExactSameOkRow : OpenClaim := { program := "ytcahmfhlmclgkaadoor", sum := "fa222abe6f2e7bbef11981bfb956c95c690ea154ef5617fa915f5ae922a93f08", func := "loop.example/twistedropes/laws.FnExactSameOk", spec := "fnExactSameOk", inPlace := ["internal/bytealg.IndexByteString", "internal/bytealg.IndexString"], named := ["unicode/utf8.first", "unicode/utf8.acceptRanges", "internal/bytealg.MaxLen"], apart := false, laid := [("unicode/utf8.acceptRanges", laid_unicode_utf8_acceptRanges), ("unicode/utf8.first", laid_unicode_utf8_first)] }
def FnExactSameOkSaid : Prop := fnExactSameOkRow.holds Tryd.pinned (OpenSpec.ofChange fnExactSameOkSpec)

/-- ITS FALSE NEIGHBOUR: 'it returns false'. Refute it at one input. -/
def fnExactSameOkWrong : ChangeSpec := { name := "fnExactSameOk", fn := fun _ => fun
  | [d1, d2] => { results := [.lit (.bool false)], args := [d1, d2] }
  | _ => none }
def FnExactSameOkWrongFalsely : Prop := fnExactSameOkRow.holds Tryd.pinned (OpenSpec.ofChange fnExactSameOkWrong)

/-- 'laws.FnExactDancedFrom': WHATEVER THE INPUT: true; the input reads as it did. -/
def fnExactDancedFromSpec : ChangeSpec := { name := "fnExactDancedFrom", fn := fun _ => fun
  | [d1, d2] => { results := [.lit (.bool true)], args := [d1, d2] }
  | _ => none }
def fnExactDancedFromRow : OpenClaim := { program := "ytcahmfhlmclgkaadoor", sum := "fa222abe6f2e7bbef11981bfb956c95c690ea154ef5617fa915f5ae922a93f08", func := "loop.example/twistedropes/laws.FnExactDancedFrom", spec := "fnExactDancedFrom", inPlace := ["internal/bytealg.IndexByteString", "internal/bytealg.IndexString"], named := ["unicode/utf8.first", "unicode/utf8.acceptRanges", "internal/bytealg.MaxLen"], apart := false, laid := [("unicode/utf8.acceptRanges", laid_unicode_utf8_acceptRanges), ("unicode/utf8.first", laid_unicode_utf8_first)] }
def FnExactDancedFromSaid : Prop := fnExactDancedFromRow.holds Tryd.pinned (OpenSpec.ofChange fnExactDancedFromSpec)

/-- ITS FALSE NEIGHBOUR: 'it returns false'. Refute it at one input. -/
def fnExactDancedFromWrong : ChangeSpec := { name := "fnExactDancedFrom", fn := fun _ => fun
  | [d1, d2] => { results := [.lit (.bool false)], args := [d1, d2] }
  | _ => none }
def FnExactDancedFromWrongFalsely : Prop := fnExactDancedFromRow.holds Tryd.pinned (OpenSpec.ofChange fnExactDancedFromWrong)

/-- 'laws.FnExactLongFrom': WHATEVER THE INPUT: true; the input reads as it did. -/
def fnExactLongFromSpec : ChangeSpec := { name := "fnExactLongFrom", fn := fun _ => fun
  | [d1, d2] => { results := [.lit (.bool true)], args := [d1, d2] }
  | _ => none }
def fnExactLongFromRow : OpenClaim := { program := "ytcahmfhlmclgkaadoor", sum := "fa222abe6f2e7bbef11981bfb956c95c690ea154ef5617fa915f5ae922a93f08", func := "loop.example/twistedropes/laws.FnExactLongFrom", spec := "fnExactLongFrom", inPlace := ["internal/bytealg.IndexByteString", "internal/bytealg.IndexString"], named := ["unicode/utf8.first", "unicode/utf8.acceptRanges", "internal/bytealg.MaxLen"], apart := false, laid := [("unicode/utf8.acceptRanges", laid_unicode_utf8_acceptRanges), ("unicode/utf8.first", laid_unicode_utf8_first)] }
def FnExactLongFromSaid : Prop := fnExactLongFromRow.holds Tryd.pinned (OpenSpec.ofChange fnExactLongFromSpec)

/-- ITS FALSE NEIGHBOUR: 'it returns false'. Refute it at one input. -/
def fnExactLongFromWrong : ChangeSpec := { name := "fnExactLongFrom", fn := fun _ => fun
  | [d1, d2] => { results := [.lit (.bool false)], args := [d1, d2] }
  | _ => none }
def FnExactLongFromWrongFalsely : Prop := fnExactLongFromRow.holds Tryd.pinned (OpenSpec.ofChange fnExactLongFromWrong)

/-- 'laws.FnShortenedOf': WHATEVER THE INPUT: true; the input reads as it did. -/
def fnShortenedOfSpec : ChangeSpec := { name := "fnShortenedOf", fn := fun _ => fun
  | [d] => { results := [.lit (.bool true)], args := [d] }
  | _ => none }
def fnShortenedOfRow : OpenClaim := { program := "ytcahmfhlmclgkaadoor", sum := "fa222abe6f2e7bbef11981bfb956c95c690ea154ef5617fa915f5ae922a93f08", func := "loop.example/twistedropes/laws.FnShortenedOf", spec := "fnShortenedOf", inPlace := ["internal/bytealg.IndexByteString", "internal/bytealg.IndexString"], named := ["unicode/utf8.first", "unicode/utf8.acceptRanges", "internal/bytealg.MaxLen"], apart := false, laid := [("unicode/utf8.acceptRanges", laid_unicode_utf8_acceptRanges), ("unicode/utf8.first", laid_unicode_utf8_first)] }
def FnShortenedOfSaid : Prop := fnShortenedOfRow.holds Tryd.pinned (OpenSpec.ofChange fnShortenedOfSpec)

/-- ITS FALSE NEIGHBOUR: 'it returns false'. Refute it at one input. -/
def fnShortenedOfWrong : ChangeSpec := { name := "fnShortenedOf", fn := fun _ => fun
  | [d] => { results := [.lit (.bool false)], args := [d] }
  | _ => none }
def FnShortenedOfWrongFalsely : Prop := fnShortenedOfRow.holds Tryd.pinned (OpenSpec.ofChange fnShortenedOfWrong)

/-- 'laws.FnDancedOf': WHATEVER THE INPUT: true; the input reads as it did. -/
def fnDancedOfSpec : ChangeSpec := { name := "fnDancedOf", fn := fun _ => fun
  | [d] => { results := [.lit (.bool true)], args := [d] }
  | _ => none }
def fnDancedOfRow : OpenClaim := { program := "ytcahmfhlmclgkaadoor", sum := "fa222abe6f2e7bbef11981bfb956c95c690ea154ef5617fa915f5ae922a93f08", func := "loop.example/twistedropes/laws.FnDancedOf", spec := "fnDancedOf", inPlace := ["internal/bytealg.IndexByteString", "internal/bytealg.IndexString"], named := ["unicode/utf8.first", "unicode/utf8.acceptRanges", "internal/bytealg.MaxLen"], apart := false, laid := [("unicode/utf8.acceptRanges", laid_unicode_utf8_acceptRanges), ("unicode/utf8.first", laid_unicode_utf8_first)] }
def FnDancedOfSaid : Prop := fnDancedOfRow.holds Tryd.pinned (OpenSpec.ofChange fnDancedOfSpec)

/-- ITS FALSE NEIGHBOUR: 'it returns false'. Refute it at one input. -/
def fnDancedOfWrong : ChangeSpec := { name := "fnDancedOf", fn := fun _ => fun
  | [d] => { results := [.lit (.bool false)], args := [d] }
  | _ => none }
def FnDancedOfWrongFalsely : Prop := fnDancedOfRow.holds Tryd.pinned (OpenSpec.ofChange fnDancedOfWrong)

/-- 'laws.FnEndsAfter': WHATEVER THE INPUT: true; the input reads as it did. -/
def fnEndsAfterSpec : ChangeSpec := { name := "fnEndsAfter", fn := fun _ => fun
  | [d] => { results := [.lit (.bool true)], args := [d] }
  | _ => none }
def fnEndsAfterRow : OpenClaim := { program := "ytcahmfhlmclgkaadoor", sum := "fa222abe6f2e7bbef11981bfb956c95c690ea154ef5617fa915f5ae922a93f08", func := "loop.example/twistedropes/laws.FnEndsAfter", spec := "fnEndsAfter", inPlace := ["internal/bytealg.IndexByteString", "internal/bytealg.IndexString"], named := ["unicode/utf8.first", "unicode/utf8.acceptRanges", "internal/bytealg.MaxLen"], apart := false, laid := [("unicode/utf8.acceptRanges", laid_unicode_utf8_acceptRanges), ("unicode/utf8.first", laid_unicode_utf8_first)] }
def FnEndsAfterSaid : Prop := fnEndsAfterRow.holds Tryd.pinned (OpenSpec.ofChange fnEndsAfterSpec)

/-- ITS FALSE NEIGHBOUR: 'it returns false'. Refute it at one input. -/
def fnEndsAfterWrong : ChangeSpec := { name := "fnEndsAfter", fn := fun _ => fun
  | [d] => { results := [.lit (.bool false)], args := [d] }
  | _ => none }
def FnEndsAfterWrongFalsely : Prop := fnEndsAfterRow.holds Tryd.pinned (OpenSpec.ofChange fnEndsAfterWrong)

/-- 'laws.FnUntiedOf': WHATEVER THE INPUT: true; the input reads as it did. -/
def fnUntiedOfSpec : ChangeSpec := { name := "fnUntiedOf", fn := fun _ => fun
  | [d] => { results := [.lit (.bool true)], args := [d] }
  | _ => none }
def fnUntiedOfRow : OpenClaim := { program := "ytcahmfhlmclgkaadoor", sum := "fa222abe6f2e7bbef11981bfb956c95c690ea154ef5617fa915f5ae922a93f08", func := "loop.example/twistedropes/laws.FnUntiedOf", spec := "fnUntiedOf", inPlace := ["internal/bytealg.IndexByteString", "internal/bytealg.IndexString"], named := ["unicode/utf8.first", "unicode/utf8.acceptRanges", "internal/bytealg.MaxLen"], apart := false, laid := [("unicode/utf8.acceptRanges", laid_unicode_utf8_acceptRanges), ("unicode/utf8.first", laid_unicode_utf8_first)] }
def FnUntiedOfSaid : Prop := fnUntiedOfRow.holds Tryd.pinned (OpenSpec.ofChange fnUntiedOfSpec)

/-- ITS FALSE NEIGHBOUR: 'it returns false'. Refute it at one input. -/
def fnUntiedOfWrong : ChangeSpec := { name := "fnUntiedOf", fn := fun _ => fun
  | [d] => { results := [.lit (.bool false)], args := [d] }
  | _ => none }
def FnUntiedOfWrongFalsely : Prop := fnUntiedOfRow.holds Tryd.pinned (OpenSpec.ofChange fnUntiedOfWrong)

/-- 'laws.FnStepsOf': WHATEVER THE INPUT: true; the input reads as it did. -/
def fnStepsOfSpec : ChangeSpec := { name := "fnStepsOf", fn := fun _ => fun
  | [d] => { results := [.lit (.bool true)], args := [d] }
  | _ => none }
def fnStepsOfRow : OpenClaim := { program := "ytcahmfhlmclgkaadoor", sum := "fa222abe6f2e7bbef11981bfb956c95c690ea154ef5617fa915f5ae922a93f08", func := "loop.example/twistedropes/laws.FnStepsOf", spec := "fnStepsOf", inPlace := ["internal/bytealg.IndexByteString", "internal/bytealg.IndexString"], named := ["unicode/utf8.first", "unicode/utf8.acceptRanges", "internal/bytealg.MaxLen"], apart := false, laid := [("unicode/utf8.acceptRanges", laid_unicode_utf8_acceptRanges), ("unicode/utf8.first", laid_unicode_utf8_first)] }
def FnStepsOfSaid : Prop := fnStepsOfRow.holds Tryd.pinned (OpenSpec.ofChange fnStepsOfSpec)

/-- ITS FALSE NEIGHBOUR: 'it returns false'. Refute it at one input. -/
def fnStepsOfWrong : ChangeSpec := { name := "fnStepsOf", fn := fun _ => fun
  | [d] => { results := [.lit (.bool false)], args := [d] }
  | _ => none }
def FnStepsOfWrongFalsely : Prop := fnStepsOfRow.holds Tryd.pinned (OpenSpec.ofChange fnStepsOfWrong)

/-- 'laws.FnDancedFrom': WHATEVER THE INPUT: true; the input reads as it did. -/
def fnDancedFromSpec : ChangeSpec := { name := "fnDancedFrom", fn := fun _ => fun
  | [d] => { results := [.lit (.bool true)], args := [d] }
  | _ => none }
def fnDancedFromRow : OpenClaim := { program := "ytcahmfhlmclgkaadoor", sum := "fa222abe6f2e7bbef11981bfb956c95c690ea154ef5617fa915f5ae922a93f08", func := "loop.example/twistedropes/laws.FnDancedFrom", spec := "fnDancedFrom", inPlace := ["internal/bytealg.IndexByteString", "internal/bytealg.IndexString"], named := ["unicode/utf8.first", "unicode/utf8.acceptRanges", "internal/bytealg.MaxLen"], apart := false, laid := [("unicode/utf8.acceptRanges", laid_unicode_utf8_acceptRanges), ("unicode/utf8.first", laid_unicode_utf8_first)] }
def FnDancedFromSaid : Prop := fnDancedFromRow.holds Tryd.pinned (OpenSpec.ofChange fnDancedFromSpec)

/-- ITS FALSE NEIGHBOUR: 'it returns false'. Refute it at one input. -/
def fnDancedFromWrong : ChangeSpec := { name := "fnDancedFrom", fn := fun _ => fun
  | [d] => { results := [.lit (.bool false)], args := [d] }
  | _ => none }
def FnDancedFromWrongFalsely : Prop := fnDancedFromRow.holds Tryd.pinned (OpenSpec.ofChange fnDancedFromWrong)

/-- 'laws.FnLongFrom': WHATEVER THE INPUT: true; the input reads as it did. -/
def fnLongFromSpec : ChangeSpec := { name := "fnLongFrom", fn := fun _ => fun
  | [d] => { results := [.lit (.bool true)], args := [d] }
  | _ => none }
def fnLongFromRow : OpenClaim := { program := "ytcahmfhlmclgkaadoor", sum := "fa222abe6f2e7bbef11981bfb956c95c690ea154ef5617fa915f5ae922a93f08", func := "loop.example/twistedropes/laws.FnLongFrom", spec := "fnLongFrom", inPlace := ["internal/bytealg.IndexByteString", "internal/bytealg.IndexString"], named := ["unicode/utf8.first", "unicode/utf8.acceptRanges", "internal/bytealg.MaxLen"], apart := false, laid := [("unicode/utf8.acceptRanges", laid_unicode_utf8_acceptRanges), ("unicode/utf8.first", laid_unicode_utf8_first)] }
def FnLongFromSaid : Prop := fnLongFromRow.holds Tryd.pinned (OpenSpec.ofChange fnLongFromSpec)

/-- ITS FALSE NEIGHBOUR: 'it returns false'. Refute it at one input. -/
def fnLongFromWrong : ChangeSpec := { name := "fnLongFrom", fn := fun _ => fun
  | [d] => { results := [.lit (.bool false)], args := [d] }
  | _ => none }
def FnLongFromWrongFalsely : Prop := fnLongFromRow.holds Tryd.pinned (OpenSpec.ofChange fnLongFromWrong)

/-- 'laws.FnMapOf': WHATEVER THE INPUT: true; the input reads as it did. -/
def fnMapOfSpec : ChangeSpec := { name := "fnMapOf", fn := fun _ => fun
  | [d] => { results := [.lit (.bool true)], args := [d] }
  | _ => none }
def fnMapOfRow : OpenClaim := { program := "ytcahmfhlmclgkaadoor", sum := "fa222abe6f2e7bbef11981bfb956c95c690ea154ef5617fa915f5ae922a93f08", func := "loop.example/twistedropes/laws.FnMapOf", spec := "fnMapOf", inPlace := ["internal/bytealg.IndexByteString", "internal/bytealg.IndexString"], named := ["unicode/utf8.first", "unicode/utf8.acceptRanges", "internal/bytealg.MaxLen"], apart := false, laid := [("unicode/utf8.acceptRanges", laid_unicode_utf8_acceptRanges), ("unicode/utf8.first", laid_unicode_utf8_first)] }
def FnMapOfSaid : Prop := fnMapOfRow.holds Tryd.pinned (OpenSpec.ofChange fnMapOfSpec)

/-- ITS FALSE NEIGHBOUR: 'it returns false'. Refute it at one input. -/
def fnMapOfWrong : ChangeSpec := { name := "fnMapOf", fn := fun _ => fun
  | [d] => { results := [.lit (.bool false)], args := [d] }
  | _ => none }
def FnMapOfWrongFalsely : Prop := fnMapOfRow.holds Tryd.pinned (OpenSpec.ofChange fnMapOfWrong)

/-- 'laws.FnSameOk': WHATEVER THE INPUT: true; the input reads as it did. -/
def fnSameOkSpec : ChangeSpec := { name := "fnSameOk", fn := fun _ => fun
  | [d] => { results := [.lit (.bool true)], args := [d] }
  | _ => none }
def fnSameOkRow : OpenClaim := { program := "ytcahmfhlmclgkaadoor", sum := "fa222abe6f2e7bbef11981bfb956c95c690ea154ef5617fa915f5ae922a93f08", func := "loop.example/twistedropes/laws.FnSameOk", spec := "fnSameOk", inPlace := ["internal/bytealg.IndexByteString", "internal/bytealg.IndexString"], named := ["unicode/utf8.first", "unicode/utf8.acceptRanges", "internal/bytealg.MaxLen"], apart := false, laid := [("unicode/utf8.acceptRanges", laid_unicode_utf8_acceptRanges), ("unicode/utf8.first", laid_unicode_utf8_first)] }
def FnSameOkSaid : Prop := fnSameOkRow.holds Tryd.pinned (OpenSpec.ofChange fnSameOkSpec)

/-- ITS FALSE NEIGHBOUR: 'it returns false'. Refute it at one input. -/
def fnSameOkWrong : ChangeSpec := { name := "fnSameOk", fn := fun _ => fun
  | [d] => { results := [.lit (.bool false)], args := [d] }
  | _ => none }
def FnSameOkWrongFalsely : Prop := fnSameOkRow.holds Tryd.pinned (OpenSpec.ofChange fnSameOkWrong)

/- THE SECOND FORM. 'bulk': how many values and letters a reading holds, each counted each time it is reached (what is shared counts as often as it is met; a slice's spare places count too). A statement '..UptoSaid' is the law's where the arguments, and the package variables that the reading takes, are together of bulk at most 1048576: NARROWER than '..Said'. Prove '..Said' where nothing that the law and all that it calls make is longer than what came in: it says more and counts as full. Else prove '..UptoSaid'. A law counts once. -/
mutual
def uptoBulk {H : Type} : DataW H → Nat
  | .lit (.string bytes) => bytes.length + 1
  | .lit _ => 1
  | .nil => 1
  | .ptr d => uptoBulk d + 1
  | .slice elems spare => uptoBulkAll elems + uptoBulkAll spare + 1
  | .agg parts => uptoBulkAll parts + 1
  | .iface _ d => uptoBulk d + 1
  | .map entries => uptoBulkEntries entries + 1
  | .held _ => 1
def uptoBulkAll {H : Type} : List (DataW H) → Nat
  | [] => 0
  | d :: r => uptoBulk d + uptoBulkAll r
def uptoBulkEntries {H : Type} : List (Lit × DataW H) → Nat
  | [] => 0
  | x :: r => uptoBulkEntry x + uptoBulkEntries r
def uptoBulkEntry {H : Type} : Lit × DataW H → Nat
  | (.string bytes, d) => bytes.length + uptoBulk d + 1
  | (_, d) => uptoBulk d + 1
 end
def uptoSmall : (H : Type) → List (DataW H) → Bool := fun _ ds => decide (uptoBulkAll ds ≤ 1048576)
def OpenSpec.upto (s : _root_.Go.ChangeSpec) : _root_.Go.OpenSpec := { _root_.Go.OpenSpec.ofChange s with cond := some uptoSmall }

/-- 'laws.FnExactSameOk', WHERE WHAT IT READS IS OF BULK AT MOST 1048576: true; the input reads as it did. -/
def fnExactSameOkUptoRow : OpenClaim := { program := "ytcahmfhlmclgkaadoor", sum := "fa222abe6f2e7bbef11981bfb956c95c690ea154ef5617fa915f5ae922a93f08", func := "loop.example/twistedropes/laws.FnExactSameOk", spec := "fnExactSameOk", inPlace := ["internal/bytealg.IndexByteString", "internal/bytealg.IndexString"], named := ["unicode/utf8.first", "unicode/utf8.acceptRanges", "internal/bytealg.MaxLen"], apart := false, laid := [("unicode/utf8.acceptRanges", laid_unicode_utf8_acceptRanges), ("unicode/utf8.first", laid_unicode_utf8_first)], narrowed := true }
def FnExactSameOkUptoSaid : Prop := fnExactSameOkUptoRow.holds Tryd.pinned (OpenSpec.upto fnExactSameOkSpec)

/-- 'laws.FnExactDancedFrom', WHERE WHAT IT READS IS OF BULK AT MOST 1048576: true; the input reads as it did. -/
def fnExactDancedFromUptoRow : OpenClaim := { program := "ytcahmfhlmclgkaadoor", sum := "fa222abe6f2e7bbef11981bfb956c95c690ea154ef5617fa915f5ae922a93f08", func := "loop.example/twistedropes/laws.FnExactDancedFrom", spec := "fnExactDancedFrom", inPlace := ["internal/bytealg.IndexByteString", "internal/bytealg.IndexString"], named := ["unicode/utf8.first", "unicode/utf8.acceptRanges", "internal/bytealg.MaxLen"], apart := false, laid := [("unicode/utf8.acceptRanges", laid_unicode_utf8_acceptRanges), ("unicode/utf8.first", laid_unicode_utf8_first)], narrowed := true }
def FnExactDancedFromUptoSaid : Prop := fnExactDancedFromUptoRow.holds Tryd.pinned (OpenSpec.upto fnExactDancedFromSpec)

/-- 'laws.FnExactLongFrom', WHERE WHAT IT READS IS OF BULK AT MOST 1048576: true; the input reads as it did. -/
def fnExactLongFromUptoRow : OpenClaim := { program := "ytcahmfhlmclgkaadoor", sum := "fa222abe6f2e7bbef11981bfb956c95c690ea154ef5617fa915f5ae922a93f08", func := "loop.example/twistedropes/laws.FnExactLongFrom", spec := "fnExactLongFrom", inPlace := ["internal/bytealg.IndexByteString", "internal/bytealg.IndexString"], named := ["unicode/utf8.first", "unicode/utf8.acceptRanges", "internal/bytealg.MaxLen"], apart := false, laid := [("unicode/utf8.acceptRanges", laid_unicode_utf8_acceptRanges), ("unicode/utf8.first", laid_unicode_utf8_first)], narrowed := true }
def FnExactLongFromUptoSaid : Prop := fnExactLongFromUptoRow.holds Tryd.pinned (OpenSpec.upto fnExactLongFromSpec)

/-- 'laws.FnShortenedOf', WHERE WHAT IT READS IS OF BULK AT MOST 1048576: true; the input reads as it did. -/
def fnShortenedOfUptoRow : OpenClaim := { program := "ytcahmfhlmclgkaadoor", sum := "fa222abe6f2e7bbef11981bfb956c95c690ea154ef5617fa915f5ae922a93f08", func := "loop.example/twistedropes/laws.FnShortenedOf", spec := "fnShortenedOf", inPlace := ["internal/bytealg.IndexByteString", "internal/bytealg.IndexString"], named := ["unicode/utf8.first", "unicode/utf8.acceptRanges", "internal/bytealg.MaxLen"], apart := false, laid := [("unicode/utf8.acceptRanges", laid_unicode_utf8_acceptRanges), ("unicode/utf8.first", laid_unicode_utf8_first)], narrowed := true }
def FnShortenedOfUptoSaid : Prop := fnShortenedOfUptoRow.holds Tryd.pinned (OpenSpec.upto fnShortenedOfSpec)

/-- 'laws.FnDancedOf', WHERE WHAT IT READS IS OF BULK AT MOST 1048576: true; the input reads as it did. -/
def fnDancedOfUptoRow : OpenClaim := { program := "ytcahmfhlmclgkaadoor", sum := "fa222abe6f2e7bbef11981bfb956c95c690ea154ef5617fa915f5ae922a93f08", func := "loop.example/twistedropes/laws.FnDancedOf", spec := "fnDancedOf", inPlace := ["internal/bytealg.IndexByteString", "internal/bytealg.IndexString"], named := ["unicode/utf8.first", "unicode/utf8.acceptRanges", "internal/bytealg.MaxLen"], apart := false, laid := [("unicode/utf8.acceptRanges", laid_unicode_utf8_acceptRanges), ("unicode/utf8.first", laid_unicode_utf8_first)], narrowed := true }
def FnDancedOfUptoSaid : Prop := fnDancedOfUptoRow.holds Tryd.pinned (OpenSpec.upto fnDancedOfSpec)

/-- 'laws.FnEndsAfter', WHERE WHAT IT READS IS OF BULK AT MOST 1048576: true; the input reads as it did. -/
def fnEndsAfterUptoRow : OpenClaim := { program := "ytcahmfhlmclgkaadoor", sum := "fa222abe6f2e7bbef11981bfb956c95c690ea154ef5617fa915f5ae922a93f08", func := "loop.example/twistedropes/laws.FnEndsAfter", spec := "fnEndsAfter", inPlace := ["internal/bytealg.IndexByteString", "internal/bytealg.IndexString"], named := ["unicode/utf8.first", "unicode/utf8.acceptRanges", "internal/bytealg.MaxLen"], apart := false, laid := [("unicode/utf8.acceptRanges", laid_unicode_utf8_acceptRanges), ("unicode/utf8.first", laid_unicode_utf8_first)], narrowed := true }
def FnEndsAfterUptoSaid : Prop := fnEndsAfterUptoRow.holds Tryd.pinned (OpenSpec.upto fnEndsAfterSpec)

/-- 'laws.FnUntiedOf', WHERE WHAT IT READS IS OF BULK AT MOST 1048576: true; the input reads as it did. -/
def fnUntiedOfUptoRow : OpenClaim := { program := "ytcahmfhlmclgkaadoor", sum := "fa222abe6f2e7bbef11981bfb956c95c690ea154ef5617fa915f5ae922a93f08", func := "loop.example/twistedropes/laws.FnUntiedOf", spec := "fnUntiedOf", inPlace := ["internal/bytealg.IndexByteString", "internal/bytealg.IndexString"], named := ["unicode/utf8.first", "unicode/utf8.acceptRanges", "internal/bytealg.MaxLen"], apart := false, laid := [("unicode/utf8.acceptRanges", laid_unicode_utf8_acceptRanges), ("unicode/utf8.first", laid_unicode_utf8_first)], narrowed := true }
def FnUntiedOfUptoSaid : Prop := fnUntiedOfUptoRow.holds Tryd.pinned (OpenSpec.upto fnUntiedOfSpec)

/-- 'laws.FnStepsOf', WHERE WHAT IT READS IS OF BULK AT MOST 1048576: true; the input reads as it did. -/
def fnStepsOfUptoRow : OpenClaim := { program := "ytcahmfhlmclgkaadoor", sum := "fa222abe6f2e7bbef11981bfb956c95c690ea154ef5617fa915f5ae922a93f08", func := "loop.example/twistedropes/laws.FnStepsOf", spec := "fnStepsOf", inPlace := ["internal/bytealg.IndexByteString", "internal/bytealg.IndexString"], named := ["unicode/utf8.first", "unicode/utf8.acceptRanges", "internal/bytealg.MaxLen"], apart := false, laid := [("unicode/utf8.acceptRanges", laid_unicode_utf8_acceptRanges), ("unicode/utf8.first", laid_unicode_utf8_first)], narrowed := true }
def FnStepsOfUptoSaid : Prop := fnStepsOfUptoRow.holds Tryd.pinned (OpenSpec.upto fnStepsOfSpec)

/-- 'laws.FnDancedFrom', WHERE WHAT IT READS IS OF BULK AT MOST 1048576: true; the input reads as it did. -/
def fnDancedFromUptoRow : OpenClaim := { program := "ytcahmfhlmclgkaadoor", sum := "fa222abe6f2e7bbef11981bfb956c95c690ea154ef5617fa915f5ae922a93f08", func := "loop.example/twistedropes/laws.FnDancedFrom", spec := "fnDancedFrom", inPlace := ["internal/bytealg.IndexByteString", "internal/bytealg.IndexString"], named := ["unicode/utf8.first", "unicode/utf8.acceptRanges", "internal/bytealg.MaxLen"], apart := false, laid := [("unicode/utf8.acceptRanges", laid_unicode_utf8_acceptRanges), ("unicode/utf8.first", laid_unicode_utf8_first)], narrowed := true }
def FnDancedFromUptoSaid : Prop := fnDancedFromUptoRow.holds Tryd.pinned (OpenSpec.upto fnDancedFromSpec)

/-- 'laws.FnLongFrom', WHERE WHAT IT READS IS OF BULK AT MOST 1048576: true; the input reads as it did. -/
def fnLongFromUptoRow : OpenClaim := { program := "ytcahmfhlmclgkaadoor", sum := "fa222abe6f2e7bbef11981bfb956c95c690ea154ef5617fa915f5ae922a93f08", func := "loop.example/twistedropes/laws.FnLongFrom", spec := "fnLongFrom", inPlace := ["internal/bytealg.IndexByteString", "internal/bytealg.IndexString"], named := ["unicode/utf8.first", "unicode/utf8.acceptRanges", "internal/bytealg.MaxLen"], apart := false, laid := [("unicode/utf8.acceptRanges", laid_unicode_utf8_acceptRanges), ("unicode/utf8.first", laid_unicode_utf8_first)], narrowed := true }
def FnLongFromUptoSaid : Prop := fnLongFromUptoRow.holds Tryd.pinned (OpenSpec.upto fnLongFromSpec)

/-- 'laws.FnMapOf', WHERE WHAT IT READS IS OF BULK AT MOST 1048576: true; the input reads as it did. -/
def fnMapOfUptoRow : OpenClaim := { program := "ytcahmfhlmclgkaadoor", sum := "fa222abe6f2e7bbef11981bfb956c95c690ea154ef5617fa915f5ae922a93f08", func := "loop.example/twistedropes/laws.FnMapOf", spec := "fnMapOf", inPlace := ["internal/bytealg.IndexByteString", "internal/bytealg.IndexString"], named := ["unicode/utf8.first", "unicode/utf8.acceptRanges", "internal/bytealg.MaxLen"], apart := false, laid := [("unicode/utf8.acceptRanges", laid_unicode_utf8_acceptRanges), ("unicode/utf8.first", laid_unicode_utf8_first)], narrowed := true }
def FnMapOfUptoSaid : Prop := fnMapOfUptoRow.holds Tryd.pinned (OpenSpec.upto fnMapOfSpec)

/-- 'laws.FnSameOk', WHERE WHAT IT READS IS OF BULK AT MOST 1048576: true; the input reads as it did. -/
def fnSameOkUptoRow : OpenClaim := { program := "ytcahmfhlmclgkaadoor", sum := "fa222abe6f2e7bbef11981bfb956c95c690ea154ef5617fa915f5ae922a93f08", func := "loop.example/twistedropes/laws.FnSameOk", spec := "fnSameOk", inPlace := ["internal/bytealg.IndexByteString", "internal/bytealg.IndexString"], named := ["unicode/utf8.first", "unicode/utf8.acceptRanges", "internal/bytealg.MaxLen"], apart := false, laid := [("unicode/utf8.acceptRanges", laid_unicode_utf8_acceptRanges), ("unicode/utf8.first", laid_unicode_utf8_first)], narrowed := true }
def FnSameOkUptoSaid : Prop := fnSameOkUptoRow.holds Tryd.pinned (OpenSpec.upto fnSameOkSpec)

end Rows
end Go.Proofs.YtcahmfhlmclgkaaDoor
