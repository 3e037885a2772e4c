/- Walks of functions that the law reaches (lines that the kit's print wrote, over contracts of this session's own). -/
import Derived.Test.YtpjiimlcdifneaaDoorProg
import Derived.Below
import Derived.Deep.Draws
import Derived.Deep.AppendLies
import Derived.Maps.AppendAt
import Derived.OwnWalk
import Derived.Laws.BytesArg
import Derived.Laws.MakeOwn
import Derived.Laws.OwnMore
import Derived.Deep.OwnRows
import Derived.Tactics
import Derived.Lib.ConvBytes
import Derived.Laws.Slices
import Derived.WalkKit
import Derived.KernelRfl
import Derived.RowKit3
import Derived.Deep.LoopGhost
import Derived.Deep.QuietTactic
import Derived.BigQuiet
import Derived.WideLaws
import Derived.Deep.DeepCutAuto
import Derived.Deep.CutBlock
import Derived.Deep.RegionHeld3
import Derived.Laws.Rows
import Derived.Lib.AppendStr
import Derived.ArgAppend
import Derived.Laws.IdiomCopy
import Derived.OrdersHeld
import Derived.Laws.BitsLemmas
import Derived.RowKit
import Derived.Test.YtpjiimlcdifneaaDoorFrac
import Derived.Test.YtpjiimlcdifneaaDoorWWords
import Derived.Test.YtpjiimlcdifneaaDoorWLast
import Derived.Test.YtpjiimlcdifneaaDoorWTab
import Derived.Test.YtpjiimlcdifneaaDoorWFour
import Derived.Test.YtpjiimlcdifneaaDoorWQPut
import Derived.Test.YtpjiimlcdifneaaDoorWApart
import Derived.Test.YtpjiimlcdifneaaDoorWArr
import Derived.Test.YtpjiimlcdifneaaDoorWZeros
import Derived.Test.YtpjiimlcdifneaaDoorWFoot
import Derived.Test.YtpjiimlcdifneaaDoorWKept
import Derived.Test.YtpjiimlcdifneaaDoorWShare
import Derived.Test.YtpjiimlcdifneaaDoorWN
import Derived.Test.YtpjiimlcdifneaaDoorWFootNe
import Derived.Test.YtpjiimlcdifneaaDoorWAt
import Derived.Test.YtpjiimlcdifneaaDoorWEqStruct
import Derived.Test.YtpjiimlcdifneaaDoorWRepsOne
import Derived.Test.YtpjiimlcdifneaaDoorWInv
import Derived.Test.YtpjiimlcdifneaaDoorWInvWords
import Derived.Test.YtpjiimlcdifneaaDoorWGuard
import Derived.Test.YtpjiimlcdifneaaDoorWNEv
import Derived.Test.YtpjiimlcdifneaaDoorWMore
namespace Go.Proofs.YtpjiimlcdifneaaDoor.PFnExactFractionText
open Go.RowKit Go.Proofs.YtpjiimlcdifneaaDoorW.PrintWords Go.Proofs.YtpjiimlcdifneaaDoorW.PrintLast Go.Proofs.YtpjiimlcdifneaaDoorW.PrintMore
attribute [local go_sem] max2_int min2_int max_two min_two max_three min_three max_four min_four   -- for this text's walks alone
set_option linter.unusedVariables false
set_option linter.unusedSimpArgs false




def errW : Option Int → Value
  | none => .nilIface
  | some c => .iface 0 (.int .i64 c)
theorem errW_none : errW none = .nilIface := rfl
theorem errW_some (c : Int) : errW (some c) = .iface 0 (.int .i64 c) := rfl

theorem info5 : (Tryd.prog.info? 5).map (fun i => (i.zero, i.size, i.bytes)) = some (some (.int .u8 0), 1, 1) := by kernel_rfl
-- the values' own types

end Go.Proofs.YtpjiimlcdifneaaDoor.PFnExactFractionText
