/- Walks of functions that the law reaches (lines that the kit's print wrote, over contracts of this session's own). -/
import Derived.Test.YtcahmfhlmclgkaaDoorProg
import Derived.Below
import Derived.Deep.Draws
import Derived.Deep.AppendLies
import Derived.Maps.AppendAt
import Derived.OwnWalk
import Derived.Laws.BytesArg
import Derived.Laws.MakeOwn
import Derived.Laws.OwnMore
import Derived.Deep.OwnRows
import Derived.Tactics
import Derived.Lib.ConvBytes
import Derived.Laws.Slices
import Derived.WalkKit
import Derived.KernelRfl
import Derived.RowKit3
import Derived.Deep.LoopGhost
import Derived.Deep.QuietTactic
import Derived.BigQuiet
import Derived.WideLaws
import Derived.Deep.DeepCutAuto
import Derived.Deep.CutBlock
import Derived.Deep.RegionHeld3
import Derived.Laws.Rows
import Derived.Lib.AppendStr
import Derived.ArgAppend
import Derived.Laws.IdiomCopy
import Derived.OrdersHeld
import Derived.Laws.BitsLemmas
import Derived.RowKit
import Derived.Test.YtcahmfhlmclgkaaDoorLays
import Derived.Test.YtcahmfhlmclgkaaDoorWWords
import Derived.Test.YtcahmfhlmclgkaaDoorWLast
import Derived.Test.YtcahmfhlmclgkaaDoorWTab
import Derived.Test.YtcahmfhlmclgkaaDoorWFour
import Derived.Test.YtcahmfhlmclgkaaDoorWQPut
import Derived.Test.YtcahmfhlmclgkaaDoorWApart
import Derived.Test.YtcahmfhlmclgkaaDoorWArr
import Derived.Test.YtcahmfhlmclgkaaDoorWZeros
import Derived.Test.YtcahmfhlmclgkaaDoorWFoot
import Derived.Test.YtcahmfhlmclgkaaDoorWKept
import Derived.Test.YtcahmfhlmclgkaaDoorWShare
import Derived.Test.YtcahmfhlmclgkaaDoorWN
import Derived.Test.YtcahmfhlmclgkaaDoorWFootNe
import Derived.Test.YtcahmfhlmclgkaaDoorWAt
import Derived.Test.YtcahmfhlmclgkaaDoorWEqStruct
import Derived.Test.YtcahmfhlmclgkaaDoorWRepsOne
import Derived.Test.YtcahmfhlmclgkaaDoorWInv
import Derived.Test.YtcahmfhlmclgkaaDoorWInvWords
import Derived.Test.YtcahmfhlmclgkaaDoorWGuard
import Derived.Test.YtcahmfhlmclgkaaDoorWNEv
import Derived.Test.YtcahmfhlmclgkaaDoorWMore
namespace Go.Proofs.YtcahmfhlmclgkaaDoor.PFnMapOf
open Go.RowKit Go.Proofs.YtcahmfhlmclgkaaDoorW.PrintWords Go.Proofs.YtcahmfhlmclgkaaDoorW.PrintLast Go.Proofs.YtcahmfhlmclgkaaDoorW.PrintMore
attribute [local go_sem] max2_int min2_int max_two min_two max_three min_three max_four min_four   -- for this text's walks alone
set_option linter.unusedVariables false
set_option linter.unusedSimpArgs false




def errW : Option Int → Value
  | none => .nilIface
  | some c => .iface 0 (.int .i64 c)
theorem errW_none : errW none = .nilIface := rfl
theorem errW_some (c : Int) : errW (some c) = .iface 0 (.int .i64 c) := rfl

theorem info5 : (Tryd.prog.info? 5).map (fun i => (i.zero, i.size, i.bytes)) = some (some (.int .u8 0), 1, 1) := by kernel_rfl
theorem info9 : (Tryd.prog.info? 9).map (fun i => (i.zero, i.size, i.bytes)) = some (some (.string ⟨#[]⟩), 1, 16) := by kernel_rfl
-- the values' own types

end Go.Proofs.YtcahmfhlmclgkaaDoor.PFnMapOf
