/-
  No cell of these rows narrows 'for every input' (looked for: loops, veiled, ifaces, maps, wideKeys, modest, calm, conditions, laid).
  DERIVED. THE GIVEN ROWS OF THIS SEAT. 3 by the template 'for every input the law returns true; each argument reads behind the call as it read before'; 0 by the template 'total and deterministic' (their statements: YtpjiimlcdifneaaTotals.lean).
  GIVEN WITH THE SEED: the statements are not yours to turn. If you find one false, say at which input.
  Laid BY PROGRAM, IN A SANDBOX (cutbox-rows.mjs): the forced cells as the released guide's own fill.sh prints them over the translation ebf0f7b3771920fa… (all of the seat's roots in one cut). By AI agents, Wed Nov 11 2026. No macro, syntax, notation, axiom, sorry.
-/
import Derived.Test.YtpjiimlcdifneaaChecked
import GoSem.Claim
import GoSem.ClaimJoined
import GoSem.ClaimMapViews
import Derived.JoinedTies
import Derived.KernelRfl
namespace Go.Proofs.Ytpjiimlcdifneaa
/- THE CELL 'sum', in the pinned program and in every row, IS THE sha256 OF THE DUMP (.gsa) THAT YtpjiimlcdifneaaProg.lean LOADS. Nothing in Lean hashes anything: it is a label: what it is worth is what the hold of that sum in a sandbox is worth. -/
noncomputable def Try.pinned : Pinned := { name := "ytpjiimlcdifneaa", sum := "ebf0f7b3771920faf69f5a2c9093cbc1e06d2a6acf6b582a19fb00b383a5c397", checked := Try.checked }
namespace Rows
def none {H : Type} : Left H := { results := [], args := [] }

/-- 'laws.FnExactFasterOf': WHATEVER THE INPUT: true; the input reads as it did. -/
def fnExactFasterOfSpec : ChangeSpec := { name := "fnExactFasterOf", fn := fun _ => fun
  | [d] => { results := [.lit (.bool true)], args := [d] }
  | _ => none }
def fnExactFasterOfRow : OpenClaim := { program := "ytpjiimlcdifneaa", sum := "ebf0f7b3771920faf69f5a2c9093cbc1e06d2a6acf6b582a19fb00b383a5c397", func := "loop.example/twistedropes/laws.FnExactFasterOf", spec := "fnExactFasterOf", inPlace := ["internal/abi.NoEscape", "internal/bytealg.MakeNoZero"], apart := false }
def FnExactFasterOfSaid : Prop := fnExactFasterOfRow.holds Try.pinned (OpenSpec.ofChange fnExactFasterOfSpec)

/-- ITS FALSE NEIGHBOUR: 'it returns false'. Refute it at one input. -/
def fnExactFasterOfWrong : ChangeSpec := { name := "fnExactFasterOf", fn := fun _ => fun
  | [d] => { results := [.lit (.bool false)], args := [d] }
  | _ => none }
def FnExactFasterOfWrongFalsely : Prop := fnExactFasterOfRow.holds Try.pinned (OpenSpec.ofChange fnExactFasterOfWrong)

/-- 'laws.FnExactDanceFor': WHATEVER THE INPUT: true; the input reads as it did. -/
def fnExactDanceForSpec : ChangeSpec := { name := "fnExactDanceFor", fn := fun _ => fun
  | [d] => { results := [.lit (.bool true)], args := [d] }
  | _ => none }
def fnExactDanceForRow : OpenClaim := { program := "ytpjiimlcdifneaa", sum := "ebf0f7b3771920faf69f5a2c9093cbc1e06d2a6acf6b582a19fb00b383a5c397", func := "loop.example/twistedropes/laws.FnExactDanceFor", spec := "fnExactDanceFor", inPlace := ["internal/abi.NoEscape", "internal/bytealg.MakeNoZero"], apart := false }
def FnExactDanceForSaid : Prop := fnExactDanceForRow.holds Try.pinned (OpenSpec.ofChange fnExactDanceForSpec)

/-- ITS FALSE NEIGHBOUR: 'it returns false'. Refute it at one input. -/
def fnExactDanceForWrong : ChangeSpec := { name := "fnExactDanceFor", fn := fun _ => fun
  | [d] => { results := [.lit (.bool false)], args := [d] }
  | _ => none }
def FnExactDanceForWrongFalsely : Prop := fnExactDanceForRow.holds Try.pinned (OpenSpec.ofChange fnExactDanceForWrong)

/-- 'laws.FnExactNormalOf': WHATEVER THE INPUT: true; the input reads as it did. -/
def fnExactNormalOfSpec : ChangeSpec := { name := "fnExactNormalOf", fn := fun _ => fun
  | [d] => { results := [.lit (.bool true)], args := [d] }
  | _ => none }
def fnExactNormalOfRow : OpenClaim := { program := "ytpjiimlcdifneaa", sum := "ebf0f7b3771920faf69f5a2c9093cbc1e06d2a6acf6b582a19fb00b383a5c397", func := "loop.example/twistedropes/laws.FnExactNormalOf", spec := "fnExactNormalOf", inPlace := ["internal/abi.NoEscape", "internal/bytealg.MakeNoZero"], apart := false }
def FnExactNormalOfSaid : Prop := fnExactNormalOfRow.holds Try.pinned (OpenSpec.ofChange fnExactNormalOfSpec)

/-- ITS FALSE NEIGHBOUR: 'it returns false'. Refute it at one input. -/
def fnExactNormalOfWrong : ChangeSpec := { name := "fnExactNormalOf", fn := fun _ => fun
  | [d] => { results := [.lit (.bool false)], args := [d] }
  | _ => none }
def FnExactNormalOfWrongFalsely : Prop := fnExactNormalOfRow.holds Try.pinned (OpenSpec.ofChange fnExactNormalOfWrong)

/- THE SECOND FORM. 'bulk': how many values and letters a reading holds, each counted each time it is reached (what is shared counts as often as it is met; a slice's spare places count too). A statement '..UptoSaid' is the law's where the arguments, and the package variables that the reading takes, are together of bulk at most 1048576: NARROWER than '..Said'. Prove '..Said' where nothing that the law and all that it calls make is longer than what came in: it says more and counts as full. Else prove '..UptoSaid'. A law counts once. -/
mutual
def uptoBulk {H : Type} : DataW H → Nat
  | .lit (.string bytes) => bytes.length + 1
  | .lit _ => 1
  | .nil => 1
  | .ptr d => uptoBulk d + 1
  | .slice elems spare => uptoBulkAll elems + uptoBulkAll spare + 1
  | .agg parts => uptoBulkAll parts + 1
  | .iface _ d => uptoBulk d + 1
  | .map entries => uptoBulkEntries entries + 1
  | .held _ => 1
def uptoBulkAll {H : Type} : List (DataW H) → Nat
  | [] => 0
  | d :: r => uptoBulk d + uptoBulkAll r
def uptoBulkEntries {H : Type} : List (Lit × DataW H) → Nat
  | [] => 0
  | x :: r => uptoBulkEntry x + uptoBulkEntries r
def uptoBulkEntry {H : Type} : Lit × DataW H → Nat
  | (.string bytes, d) => bytes.length + uptoBulk d + 1
  | (_, d) => uptoBulk d + 1
 end
def uptoSmall : (H : Type) → List (DataW H) → Bool := fun _ ds => decide (uptoBulkAll ds ≤ 1048576)
def OpenSpec.upto (s : _root_.Go.ChangeSpec) : _root_.Go.OpenSpec := { _root_.Go.OpenSpec.ofChange s with cond := some uptoSmall }

/-- 'laws.FnExactFasterOf', WHERE WHAT IT READS IS OF BULK AT MOST 1048576: true; the input reads as it did. -/
def fnExactFasterOfUptoRow : OpenClaim := { program := "ytpjiimlcdifneaa", sum := "ebf0f7b3771920faf69f5a2c9093cbc1e06d2a6acf6b582a19fb00b383a5c397", func := "loop.example/twistedropes/laws.FnExactFasterOf", spec := "fnExactFasterOf", inPlace := ["internal/abi.NoEscape", "internal/bytealg.MakeNoZero"], apart := false, narrowed := true }
def FnExactFasterOfUptoSaid : Prop := fnExactFasterOfUptoRow.holds Try.pinned (OpenSpec.upto fnExactFasterOfSpec)

/-- 'laws.FnExactDanceFor', WHERE WHAT IT READS IS OF BULK AT MOST 1048576: true; the input reads as it did. -/
def fnExactDanceForUptoRow : OpenClaim := { program := "ytpjiimlcdifneaa", sum := "ebf0f7b3771920faf69f5a2c9093cbc1e06d2a6acf6b582a19fb00b383a5c397", func := "loop.example/twistedropes/laws.FnExactDanceFor", spec := "fnExactDanceFor", inPlace := ["internal/abi.NoEscape", "internal/bytealg.MakeNoZero"], apart := false, narrowed := true }
def FnExactDanceForUptoSaid : Prop := fnExactDanceForUptoRow.holds Try.pinned (OpenSpec.upto fnExactDanceForSpec)

/-- 'laws.FnExactNormalOf', WHERE WHAT IT READS IS OF BULK AT MOST 1048576: true; the input reads as it did. -/
def fnExactNormalOfUptoRow : OpenClaim := { program := "ytpjiimlcdifneaa", sum := "ebf0f7b3771920faf69f5a2c9093cbc1e06d2a6acf6b582a19fb00b383a5c397", func := "loop.example/twistedropes/laws.FnExactNormalOf", spec := "fnExactNormalOf", inPlace := ["internal/abi.NoEscape", "internal/bytealg.MakeNoZero"], apart := false, narrowed := true }
def FnExactNormalOfUptoSaid : Prop := fnExactNormalOfUptoRow.holds Try.pinned (OpenSpec.upto fnExactNormalOfSpec)

end Rows
end Go.Proofs.Ytpjiimlcdifneaa
