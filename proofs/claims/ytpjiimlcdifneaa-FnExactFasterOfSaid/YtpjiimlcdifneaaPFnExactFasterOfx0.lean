/- Walks of functions that the law reaches (lines that the kit's print wrote, over contracts of this session's own). -/
import Derived.Test.YtpjiimlcdifneaaProg
import Derived.Below
import Derived.Deep.Draws
import Derived.Deep.AppendLies
import Derived.Maps.AppendAt
import Derived.OwnWalk
import Derived.Laws.BytesArg
import Derived.Laws.MakeOwn
import Derived.Laws.OwnMore
import Derived.Deep.OwnRows
import Derived.Tactics
import Derived.Lib.ConvBytes
import Derived.Laws.Slices
import Derived.WalkKit
import Derived.KernelRfl
import Derived.RowKit3
import Derived.Deep.LoopGhost
import Derived.Deep.QuietTactic
import Derived.BigQuiet
import Derived.WideLaws
import Derived.Deep.DeepCutAuto
import Derived.Deep.CutBlock
import Derived.Deep.RegionHeld3
import Derived.Laws.Rows
import Derived.Lib.AppendStr
import Derived.ArgAppend
import Derived.Laws.IdiomCopy
import Derived.OrdersHeld
import Derived.Laws.BitsLemmas
import Derived.RowKit
import Derived.Test.YtpjiimlcdifneaaLays
import Derived.Test.YtpjiimlcdifneaaWWords
import Derived.Test.YtpjiimlcdifneaaWLast
import Derived.Test.YtpjiimlcdifneaaWTab
import Derived.Test.YtpjiimlcdifneaaWFour
import Derived.Test.YtpjiimlcdifneaaWQPut
import Derived.Test.YtpjiimlcdifneaaWApart
import Derived.Test.YtpjiimlcdifneaaWArr
import Derived.Test.YtpjiimlcdifneaaWZeros
import Derived.Test.YtpjiimlcdifneaaWFoot
import Derived.Test.YtpjiimlcdifneaaWKept
import Derived.Test.YtpjiimlcdifneaaWShare
import Derived.Test.YtpjiimlcdifneaaWN
import Derived.Test.YtpjiimlcdifneaaWFootNe
import Derived.Test.YtpjiimlcdifneaaWAt
import Derived.Test.YtpjiimlcdifneaaWEqStruct
import Derived.Test.YtpjiimlcdifneaaWRepsOne
import Derived.Test.YtpjiimlcdifneaaWInv
import Derived.Test.YtpjiimlcdifneaaWInvWords
import Derived.Test.YtpjiimlcdifneaaWGuard
import Derived.Test.YtpjiimlcdifneaaWNEv
import Derived.Test.YtpjiimlcdifneaaWMore
namespace Go.Proofs.Ytpjiimlcdifneaa.PFnExactFasterOf
open Go.RowKit Go.Proofs.YtpjiimlcdifneaaW.PrintWords Go.Proofs.YtpjiimlcdifneaaW.PrintLast Go.Proofs.YtpjiimlcdifneaaW.PrintMore
attribute [local go_sem] max2_int min2_int max_two min_two max_three min_three max_four min_four   -- for this text's walks alone
set_option linter.unusedVariables false
set_option linter.unusedSimpArgs false



def errW : Option Int → Value
  | none => .nilIface
  | some c => .iface 0 (.int .i64 c)
theorem errW_none : errW none = .nilIface := rfl
theorem errW_some (c : Int) : errW (some c) = .iface 0 (.int .i64 c) := rfl

-- the values' own types

end Go.Proofs.Ytpjiimlcdifneaa.PFnExactFasterOf
