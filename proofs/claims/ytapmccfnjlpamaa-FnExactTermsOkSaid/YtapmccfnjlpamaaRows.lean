/-
  No cell of these rows narrows 'for every input' (looked for: loops, veiled, ifaces, maps, wideKeys, modest, calm, conditions, laid).
  DERIVED. THE GIVEN ROWS OF THIS SEAT. 12 by the template 'for every input the law returns true; each argument reads behind the call as it read before'; 0 by the template 'total and deterministic' (their statements: YtapmccfnjlpamaaTotals.lean).
  GIVEN WITH THE SEED: the statements are not yours to turn. If you find one false, say at which input.
  Laid BY PROGRAM, IN A SANDBOX (cutbox-rows.mjs): the forced cells as the released guide's own fill.sh prints them over the translation bd68f137865a320d… (all of the seat's roots in one cut). By AI agents, Wed Nov 11 2026. No macro, syntax, notation, axiom, sorry.
-/
import Derived.Test.YtapmccfnjlpamaaChecked
import GoSem.Claim
import GoSem.ClaimJoined
import GoSem.ClaimMapViews
import Derived.JoinedTies
import Derived.KernelRfl
namespace Go.Proofs.Ytapmccfnjlpamaa
/- THE CELL 'sum', in the pinned program and in every row, IS THE sha256 OF THE DUMP (.gsa) THAT YtapmccfnjlpamaaProg.lean LOADS. Nothing in Lean hashes anything: it is a label: what it is worth is what the hold of that sum in a sandbox is worth. -/
noncomputable def Try.pinned : Pinned := { name := "ytapmccfnjlpamaa", sum := "bd68f137865a320d3e0543b7ad9e192afa10e07bac9f26ea0dc32abf91d891cf", checked := Try.checked }
namespace Rows
def none {H : Type} : Left H := { results := [], args := [] }

/-- 'laws.FnExactConstants': WHATEVER THE INPUT: true; the input reads as it did. -/
def fnExactConstantsSpec : ChangeSpec := { name := "fnExactConstants", fn := fun _ => fun
  | [] => { results := [.lit (.bool true)], args := [] }
  | _ => none }
def fnExactConstantsRow : OpenClaim := { program := "ytapmccfnjlpamaa", sum := "bd68f137865a320d3e0543b7ad9e192afa10e07bac9f26ea0dc32abf91d891cf", func := "loop.example/twistedropes/laws.FnExactConstants", spec := "fnExactConstants", apart := false }
def FnExactConstantsSaid : Prop := fnExactConstantsRow.holds Try.pinned (OpenSpec.ofChange fnExactConstantsSpec)

/-- ITS FALSE NEIGHBOUR: 'it returns false'. Refute it at one input. -/
def fnExactConstantsWrong : ChangeSpec := { name := "fnExactConstants", fn := fun _ => fun
  | [] => { results := [.lit (.bool false)], args := [] }
  | _ => none }
def FnExactConstantsWrongFalsely : Prop := fnExactConstantsRow.holds Try.pinned (OpenSpec.ofChange fnExactConstantsWrong)

/-- 'laws.FnExactMapOk': WHATEVER THE INPUT: true; the input reads as it did. -/
def fnExactMapOkSpec : ChangeSpec := { name := "fnExactMapOk", fn := fun _ => fun
  | [d] => { results := [.lit (.bool true)], args := [d] }
  | _ => none }
def fnExactMapOkRow : OpenClaim := { program := "ytapmccfnjlpamaa", sum := "bd68f137865a320d3e0543b7ad9e192afa10e07bac9f26ea0dc32abf91d891cf", func := "loop.example/twistedropes/laws.FnExactMapOk", spec := "fnExactMapOk", apart := false }
def FnExactMapOkSaid : Prop := fnExactMapOkRow.holds Try.pinned (OpenSpec.ofChange fnExactMapOkSpec)

/-- ITS FALSE NEIGHBOUR: 'it returns false'. Refute it at one input. -/
def fnExactMapOkWrong : ChangeSpec := { name := "fnExactMapOk", fn := fun _ => fun
  | [d] => { results := [.lit (.bool false)], args := [d] }
  | _ => none }
def FnExactMapOkWrongFalsely : Prop := fnExactMapOkRow.holds Try.pinned (OpenSpec.ofChange fnExactMapOkWrong)

/-- 'laws.FnExactTermsOk': WHATEVER THE INPUT: true; the input reads as it did. -/
def fnExactTermsOkSpec : ChangeSpec := { name := "fnExactTermsOk", fn := fun _ => fun
  | [d] => { results := [.lit (.bool true)], args := [d] }
  | _ => none }
def fnExactTermsOkRow : OpenClaim := { program := "ytapmccfnjlpamaa", sum := "bd68f137865a320d3e0543b7ad9e192afa10e07bac9f26ea0dc32abf91d891cf", func := "loop.example/twistedropes/laws.FnExactTermsOk", spec := "fnExactTermsOk", apart := false }
def FnExactTermsOkSaid : Prop := fnExactTermsOkRow.holds Try.pinned (OpenSpec.ofChange fnExactTermsOkSpec)

/-- ITS FALSE NEIGHBOUR: 'it returns false'. Refute it at one input. -/
def fnExactTermsOkWrong : ChangeSpec := { name := "fnExactTermsOk", fn := fun _ => fun
  | [d] => { results := [.lit (.bool false)], args := [d] }
  | _ => none }
def FnExactTermsOkWrongFalsely : Prop := fnExactTermsOkRow.holds Try.pinned (OpenSpec.ofChange fnExactTermsOkWrong)

/-- 'laws.FnExactFractionOk': WHATEVER THE INPUT: true; the input reads as it did. -/
def fnExactFractionOkSpec : ChangeSpec := { name := "fnExactFractionOk", fn := fun _ => fun
  | [d] => { results := [.lit (.bool true)], args := [d] }
  | _ => none }
def fnExactFractionOkRow : OpenClaim := { program := "ytapmccfnjlpamaa", sum := "bd68f137865a320d3e0543b7ad9e192afa10e07bac9f26ea0dc32abf91d891cf", func := "loop.example/twistedropes/laws.FnExactFractionOk", spec := "fnExactFractionOk", apart := false }
def FnExactFractionOkSaid : Prop := fnExactFractionOkRow.holds Try.pinned (OpenSpec.ofChange fnExactFractionOkSpec)

/-- ITS FALSE NEIGHBOUR: 'it returns false'. Refute it at one input. -/
def fnExactFractionOkWrong : ChangeSpec := { name := "fnExactFractionOk", fn := fun _ => fun
  | [d] => { results := [.lit (.bool false)], args := [d] }
  | _ => none }
def FnExactFractionOkWrongFalsely : Prop := fnExactFractionOkRow.holds Try.pinned (OpenSpec.ofChange fnExactFractionOkWrong)

/-- 'laws.FnExactLessOk': WHATEVER THE INPUT: true; the input reads as it did. -/
def fnExactLessOkSpec : ChangeSpec := { name := "fnExactLessOk", fn := fun _ => fun
  | [d1, d2] => { results := [.lit (.bool true)], args := [d1, d2] }
  | _ => none }
def fnExactLessOkRow : OpenClaim := { program := "ytapmccfnjlpamaa", sum := "bd68f137865a320d3e0543b7ad9e192afa10e07bac9f26ea0dc32abf91d891cf", func := "loop.example/twistedropes/laws.FnExactLessOk", spec := "fnExactLessOk", apart := false }
def FnExactLessOkSaid : Prop := fnExactLessOkRow.holds Try.pinned (OpenSpec.ofChange fnExactLessOkSpec)

/-- ITS FALSE NEIGHBOUR: 'it returns false'. Refute it at one input. -/
def fnExactLessOkWrong : ChangeSpec := { name := "fnExactLessOk", fn := fun _ => fun
  | [d1, d2] => { results := [.lit (.bool false)], args := [d1, d2] }
  | _ => none }
def FnExactLessOkWrongFalsely : Prop := fnExactLessOkRow.holds Try.pinned (OpenSpec.ofChange fnExactLessOkWrong)

/-- 'laws.FnExactLowestOf': WHATEVER THE INPUT: true; the input reads as it did. -/
def fnExactLowestOfSpec : ChangeSpec := { name := "fnExactLowestOf", fn := fun _ => fun
  | [d1, d2] => { results := [.lit (.bool true)], args := [d1, d2] }
  | _ => none }
def fnExactLowestOfRow : OpenClaim := { program := "ytapmccfnjlpamaa", sum := "bd68f137865a320d3e0543b7ad9e192afa10e07bac9f26ea0dc32abf91d891cf", func := "loop.example/twistedropes/laws.FnExactLowestOf", spec := "fnExactLowestOf", apart := false }
def FnExactLowestOfSaid : Prop := fnExactLowestOfRow.holds Try.pinned (OpenSpec.ofChange fnExactLowestOfSpec)

/-- ITS FALSE NEIGHBOUR: 'it returns false'. Refute it at one input. -/
def fnExactLowestOfWrong : ChangeSpec := { name := "fnExactLowestOf", fn := fun _ => fun
  | [d1, d2] => { results := [.lit (.bool false)], args := [d1, d2] }
  | _ => none }
def FnExactLowestOfWrongFalsely : Prop := fnExactLowestOfRow.holds Try.pinned (OpenSpec.ofChange fnExactLowestOfWrong)

/-- 'laws.FnExactKindOf': WHATEVER THE INPUT: true; the input reads as it did. -/
def fnExactKindOfSpec : ChangeSpec := { name := "fnExactKindOf", fn := fun _ => fun
  | [d] => { results := [.lit (.bool true)], args := [d] }
  | _ => none }
def fnExactKindOfRow : OpenClaim := { program := "ytapmccfnjlpamaa", sum := "bd68f137865a320d3e0543b7ad9e192afa10e07bac9f26ea0dc32abf91d891cf", func := "loop.example/twistedropes/laws.FnExactKindOf", spec := "fnExactKindOf", apart := false }
def FnExactKindOfSaid : Prop := fnExactKindOfRow.holds Try.pinned (OpenSpec.ofChange fnExactKindOfSpec)

/-- ITS FALSE NEIGHBOUR: 'it returns false'. Refute it at one input. -/
def fnExactKindOfWrong : ChangeSpec := { name := "fnExactKindOf", fn := fun _ => fun
  | [d] => { results := [.lit (.bool false)], args := [d] }
  | _ => none }
def FnExactKindOfWrongFalsely : Prop := fnExactKindOfRow.holds Try.pinned (OpenSpec.ofChange fnExactKindOfWrong)

/-- 'laws.FnExactRingsOf': WHATEVER THE INPUT: true; the input reads as it did. -/
def fnExactRingsOfSpec : ChangeSpec := { name := "fnExactRingsOf", fn := fun _ => fun
  | [d] => { results := [.lit (.bool true)], args := [d] }
  | _ => none }
def fnExactRingsOfRow : OpenClaim := { program := "ytapmccfnjlpamaa", sum := "bd68f137865a320d3e0543b7ad9e192afa10e07bac9f26ea0dc32abf91d891cf", func := "loop.example/twistedropes/laws.FnExactRingsOf", spec := "fnExactRingsOf", apart := false }
def FnExactRingsOfSaid : Prop := fnExactRingsOfRow.holds Try.pinned (OpenSpec.ofChange fnExactRingsOfSpec)

/-- ITS FALSE NEIGHBOUR: 'it returns false'. Refute it at one input. -/
def fnExactRingsOfWrong : ChangeSpec := { name := "fnExactRingsOf", fn := fun _ => fun
  | [d] => { results := [.lit (.bool false)], args := [d] }
  | _ => none }
def FnExactRingsOfWrongFalsely : Prop := fnExactRingsOfRow.holds Try.pinned (OpenSpec.ofChange fnExactRingsOfWrong)

/-- 'laws.FnExactPlusOf': WHATEVER THE INPUT: true; the input reads as it did. -/
def fnExactPlusOfSpec : ChangeSpec := { name := "fnExactPlusOf", fn := fun _ => fun
  | [d1, d2] => { results := [.lit (.bool true)], args := [d1, d2] }
  | _ => none }
def fnExactPlusOfRow : OpenClaim := { program := "ytapmccfnjlpamaa", sum := "bd68f137865a320d3e0543b7ad9e192afa10e07bac9f26ea0dc32abf91d891cf", func := "loop.example/twistedropes/laws.FnExactPlusOf", spec := "fnExactPlusOf", apart := false }
def FnExactPlusOfSaid : Prop := fnExactPlusOfRow.holds Try.pinned (OpenSpec.ofChange fnExactPlusOfSpec)

/-- ITS FALSE NEIGHBOUR: 'it returns false'. Refute it at one input. -/
def fnExactPlusOfWrong : ChangeSpec := { name := "fnExactPlusOf", fn := fun _ => fun
  | [d1, d2] => { results := [.lit (.bool false)], args := [d1, d2] }
  | _ => none }
def FnExactPlusOfWrongFalsely : Prop := fnExactPlusOfRow.holds Try.pinned (OpenSpec.ofChange fnExactPlusOfWrong)

/-- 'laws.FnExactBehindOf': WHATEVER THE INPUT: true; the input reads as it did. -/
def fnExactBehindOfSpec : ChangeSpec := { name := "fnExactBehindOf", fn := fun _ => fun
  | [d1, d2] => { results := [.lit (.bool true)], args := [d1, d2] }
  | _ => none }
def fnExactBehindOfRow : OpenClaim := { program := "ytapmccfnjlpamaa", sum := "bd68f137865a320d3e0543b7ad9e192afa10e07bac9f26ea0dc32abf91d891cf", func := "loop.example/twistedropes/laws.FnExactBehindOf", spec := "fnExactBehindOf", apart := false }
def FnExactBehindOfSaid : Prop := fnExactBehindOfRow.holds Try.pinned (OpenSpec.ofChange fnExactBehindOfSpec)

/-- ITS FALSE NEIGHBOUR: 'it returns false'. Refute it at one input. -/
def fnExactBehindOfWrong : ChangeSpec := { name := "fnExactBehindOf", fn := fun _ => fun
  | [d1, d2] => { results := [.lit (.bool false)], args := [d1, d2] }
  | _ => none }
def FnExactBehindOfWrongFalsely : Prop := fnExactBehindOfRow.holds Try.pinned (OpenSpec.ofChange fnExactBehindOfWrong)

/-- 'laws.FnExactOverOf': WHATEVER THE INPUT: true; the input reads as it did. -/
def fnExactOverOfSpec : ChangeSpec := { name := "fnExactOverOf", fn := fun _ => fun
  | [d] => { results := [.lit (.bool true)], args := [d] }
  | _ => none }
def fnExactOverOfRow : OpenClaim := { program := "ytapmccfnjlpamaa", sum := "bd68f137865a320d3e0543b7ad9e192afa10e07bac9f26ea0dc32abf91d891cf", func := "loop.example/twistedropes/laws.FnExactOverOf", spec := "fnExactOverOf", apart := false }
def FnExactOverOfSaid : Prop := fnExactOverOfRow.holds Try.pinned (OpenSpec.ofChange fnExactOverOfSpec)

/-- ITS FALSE NEIGHBOUR: 'it returns false'. Refute it at one input. -/
def fnExactOverOfWrong : ChangeSpec := { name := "fnExactOverOf", fn := fun _ => fun
  | [d] => { results := [.lit (.bool false)], args := [d] }
  | _ => none }
def FnExactOverOfWrongFalsely : Prop := fnExactOverOfRow.holds Try.pinned (OpenSpec.ofChange fnExactOverOfWrong)

/-- 'laws.FnExactOrderOf': WHATEVER THE INPUT: true; the input reads as it did. -/
def fnExactOrderOfSpec : ChangeSpec := { name := "fnExactOrderOf", fn := fun _ => fun
  | [d] => { results := [.lit (.bool true)], args := [d] }
  | _ => none }
def fnExactOrderOfRow : OpenClaim := { program := "ytapmccfnjlpamaa", sum := "bd68f137865a320d3e0543b7ad9e192afa10e07bac9f26ea0dc32abf91d891cf", func := "loop.example/twistedropes/laws.FnExactOrderOf", spec := "fnExactOrderOf", apart := false }
def FnExactOrderOfSaid : Prop := fnExactOrderOfRow.holds Try.pinned (OpenSpec.ofChange fnExactOrderOfSpec)

/-- ITS FALSE NEIGHBOUR: 'it returns false'. Refute it at one input. -/
def fnExactOrderOfWrong : ChangeSpec := { name := "fnExactOrderOf", fn := fun _ => fun
  | [d] => { results := [.lit (.bool false)], args := [d] }
  | _ => none }
def FnExactOrderOfWrongFalsely : Prop := fnExactOrderOfRow.holds Try.pinned (OpenSpec.ofChange fnExactOrderOfWrong)

/- THE SECOND FORM. 'bulk': how many values and letters a reading holds, each counted each time it is reached (what is shared counts as often as it is met; a slice's spare places count too). A statement '..UptoSaid' is the law's where the arguments, and the package variables that the reading takes, are together of bulk at most 1048576: NARROWER than '..Said'. Prove '..Said' where nothing that the law and all that it calls make is longer than what came in: it says more and counts as full. Else prove '..UptoSaid'. A law counts once. -/
mutual
def uptoBulk {H : Type} : DataW H → Nat
  | .lit (.string bytes) => bytes.length + 1
  | .lit _ => 1
  | .nil => 1
  | .ptr d => uptoBulk d + 1
  | .slice elems spare => uptoBulkAll elems + uptoBulkAll spare + 1
  | .agg parts => uptoBulkAll parts + 1
  | .iface _ d => uptoBulk d + 1
  | .map entries => uptoBulkEntries entries + 1
  | .held _ => 1
def uptoBulkAll {H : Type} : List (DataW H) → Nat
  | [] => 0
  | d :: r => uptoBulk d + uptoBulkAll r
def uptoBulkEntries {H : Type} : List (Lit × DataW H) → Nat
  | [] => 0
  | x :: r => uptoBulkEntry x + uptoBulkEntries r
def uptoBulkEntry {H : Type} : Lit × DataW H → Nat
  | (.string bytes, d) => bytes.length + uptoBulk d + 1
  | (_, d) => uptoBulk d + 1
 end
def uptoSmall : (H : Type) → List (DataW H) → Bool := fun _ ds => decide (uptoBulkAll ds ≤ 1048576)
def OpenSpec.upto (s : _root_.Go.ChangeSpec) : _root_.Go.OpenSpec := { _root_.Go.OpenSpec.ofChange s with cond := some uptoSmall }

/-- 'laws.FnExactConstants', WHERE WHAT IT READS IS OF BULK AT MOST 1048576: true; the input reads as it did. -/
def fnExactConstantsUptoRow : OpenClaim := { program := "ytapmccfnjlpamaa", sum := "bd68f137865a320d3e0543b7ad9e192afa10e07bac9f26ea0dc32abf91d891cf", func := "loop.example/twistedropes/laws.FnExactConstants", spec := "fnExactConstants", apart := false, narrowed := true }
def FnExactConstantsUptoSaid : Prop := fnExactConstantsUptoRow.holds Try.pinned (OpenSpec.upto fnExactConstantsSpec)

/-- 'laws.FnExactMapOk', WHERE WHAT IT READS IS OF BULK AT MOST 1048576: true; the input reads as it did. -/
def fnExactMapOkUptoRow : OpenClaim := { program := "ytapmccfnjlpamaa", sum := "bd68f137865a320d3e0543b7ad9e192afa10e07bac9f26ea0dc32abf91d891cf", func := "loop.example/twistedropes/laws.FnExactMapOk", spec := "fnExactMapOk", apart := false, narrowed := true }
def FnExactMapOkUptoSaid : Prop := fnExactMapOkUptoRow.holds Try.pinned (OpenSpec.upto fnExactMapOkSpec)

/-- 'laws.FnExactTermsOk', WHERE WHAT IT READS IS OF BULK AT MOST 1048576: true; the input reads as it did. -/
def fnExactTermsOkUptoRow : OpenClaim := { program := "ytapmccfnjlpamaa", sum := "bd68f137865a320d3e0543b7ad9e192afa10e07bac9f26ea0dc32abf91d891cf", func := "loop.example/twistedropes/laws.FnExactTermsOk", spec := "fnExactTermsOk", apart := false, narrowed := true }
def FnExactTermsOkUptoSaid : Prop := fnExactTermsOkUptoRow.holds Try.pinned (OpenSpec.upto fnExactTermsOkSpec)

/-- 'laws.FnExactFractionOk', WHERE WHAT IT READS IS OF BULK AT MOST 1048576: true; the input reads as it did. -/
def fnExactFractionOkUptoRow : OpenClaim := { program := "ytapmccfnjlpamaa", sum := "bd68f137865a320d3e0543b7ad9e192afa10e07bac9f26ea0dc32abf91d891cf", func := "loop.example/twistedropes/laws.FnExactFractionOk", spec := "fnExactFractionOk", apart := false, narrowed := true }
def FnExactFractionOkUptoSaid : Prop := fnExactFractionOkUptoRow.holds Try.pinned (OpenSpec.upto fnExactFractionOkSpec)

/-- 'laws.FnExactLessOk', WHERE WHAT IT READS IS OF BULK AT MOST 1048576: true; the input reads as it did. -/
def fnExactLessOkUptoRow : OpenClaim := { program := "ytapmccfnjlpamaa", sum := "bd68f137865a320d3e0543b7ad9e192afa10e07bac9f26ea0dc32abf91d891cf", func := "loop.example/twistedropes/laws.FnExactLessOk", spec := "fnExactLessOk", apart := false, narrowed := true }
def FnExactLessOkUptoSaid : Prop := fnExactLessOkUptoRow.holds Try.pinned (OpenSpec.upto fnExactLessOkSpec)

/-- 'laws.FnExactLowestOf', WHERE WHAT IT READS IS OF BULK AT MOST 1048576: true; the input reads as it did. -/
def fnExactLowestOfUptoRow : OpenClaim := { program := "ytapmccfnjlpamaa", sum := "bd68f137865a320d3e0543b7ad9e192afa10e07bac9f26ea0dc32abf91d891cf", func := "loop.example/twistedropes/laws.FnExactLowestOf", spec := "fnExactLowestOf", apart := false, narrowed := true }
def FnExactLowestOfUptoSaid : Prop := fnExactLowestOfUptoRow.holds Try.pinned (OpenSpec.upto fnExactLowestOfSpec)

/-- 'laws.FnExactKindOf', WHERE WHAT IT READS IS OF BULK AT MOST 1048576: true; the input reads as it did. -/
def fnExactKindOfUptoRow : OpenClaim := { program := "ytapmccfnjlpamaa", sum := "bd68f137865a320d3e0543b7ad9e192afa10e07bac9f26ea0dc32abf91d891cf", func := "loop.example/twistedropes/laws.FnExactKindOf", spec := "fnExactKindOf", apart := false, narrowed := true }
def FnExactKindOfUptoSaid : Prop := fnExactKindOfUptoRow.holds Try.pinned (OpenSpec.upto fnExactKindOfSpec)

/-- 'laws.FnExactRingsOf', WHERE WHAT IT READS IS OF BULK AT MOST 1048576: true; the input reads as it did. -/
def fnExactRingsOfUptoRow : OpenClaim := { program := "ytapmccfnjlpamaa", sum := "bd68f137865a320d3e0543b7ad9e192afa10e07bac9f26ea0dc32abf91d891cf", func := "loop.example/twistedropes/laws.FnExactRingsOf", spec := "fnExactRingsOf", apart := false, narrowed := true }
def FnExactRingsOfUptoSaid : Prop := fnExactRingsOfUptoRow.holds Try.pinned (OpenSpec.upto fnExactRingsOfSpec)

/-- 'laws.FnExactPlusOf', WHERE WHAT IT READS IS OF BULK AT MOST 1048576: true; the input reads as it did. -/
def fnExactPlusOfUptoRow : OpenClaim := { program := "ytapmccfnjlpamaa", sum := "bd68f137865a320d3e0543b7ad9e192afa10e07bac9f26ea0dc32abf91d891cf", func := "loop.example/twistedropes/laws.FnExactPlusOf", spec := "fnExactPlusOf", apart := false, narrowed := true }
def FnExactPlusOfUptoSaid : Prop := fnExactPlusOfUptoRow.holds Try.pinned (OpenSpec.upto fnExactPlusOfSpec)

/-- 'laws.FnExactBehindOf', WHERE WHAT IT READS IS OF BULK AT MOST 1048576: true; the input reads as it did. -/
def fnExactBehindOfUptoRow : OpenClaim := { program := "ytapmccfnjlpamaa", sum := "bd68f137865a320d3e0543b7ad9e192afa10e07bac9f26ea0dc32abf91d891cf", func := "loop.example/twistedropes/laws.FnExactBehindOf", spec := "fnExactBehindOf", apart := false, narrowed := true }
def FnExactBehindOfUptoSaid : Prop := fnExactBehindOfUptoRow.holds Try.pinned (OpenSpec.upto fnExactBehindOfSpec)

/-- 'laws.FnExactOverOf', WHERE WHAT IT READS IS OF BULK AT MOST 1048576: true; the input reads as it did. -/
def fnExactOverOfUptoRow : OpenClaim := { program := "ytapmccfnjlpamaa", sum := "bd68f137865a320d3e0543b7ad9e192afa10e07bac9f26ea0dc32abf91d891cf", func := "loop.example/twistedropes/laws.FnExactOverOf", spec := "fnExactOverOf", apart := false, narrowed := true }
def FnExactOverOfUptoSaid : Prop := fnExactOverOfUptoRow.holds Try.pinned (OpenSpec.upto fnExactOverOfSpec)

/-- 'laws.FnExactOrderOf', WHERE WHAT IT READS IS OF BULK AT MOST 1048576: true; the input reads as it did. -/
def fnExactOrderOfUptoRow : OpenClaim := { program := "ytapmccfnjlpamaa", sum := "bd68f137865a320d3e0543b7ad9e192afa10e07bac9f26ea0dc32abf91d891cf", func := "loop.example/twistedropes/laws.FnExactOrderOf", spec := "fnExactOrderOf", apart := false, narrowed := true }
def FnExactOrderOfUptoSaid : Prop := fnExactOrderOfUptoRow.holds Try.pinned (OpenSpec.upto fnExactOrderOfSpec)

end Rows
end Go.Proofs.Ytapmccfnjlpamaa
