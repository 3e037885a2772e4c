-- PRINTED BY print.sh 35421559b90ae4d0a3588c463048766b98c2df88dd9212a6774a882060cdf62d: not written by this session
import Derived.Test.YtapmccfnjlpamaaProg
import Derived.Below
import Derived.Deep.Draws
import Derived.Deep.AppendLies
import Derived.Maps.AppendAt
import Derived.OwnWalk
import Derived.Laws.BytesArg
import Derived.Laws.MakeOwn
import Derived.Laws.OwnMore
import Derived.Deep.OwnRows
import Derived.Tactics
import Derived.Lib.ConvBytes
import Derived.Laws.Slices
import Derived.WalkKit
import Derived.KernelRfl
import Derived.RowKit3
import Derived.Deep.LoopGhost
import Derived.Deep.QuietTactic
import Derived.BigQuiet
import Derived.WideLaws
import Derived.Deep.DeepCutAuto
import Derived.Deep.CutBlock
import Derived.Deep.RegionHeld3
import Derived.Laws.Rows
import Derived.Lib.AppendStr
import Derived.ArgAppend
import Derived.Laws.IdiomCopy
import Derived.OrdersHeld
import Derived.Laws.BitsLemmas
import Derived.RowKit
import Derived.Test.YtapmccfnjlpamaaWWords
import Derived.Test.YtapmccfnjlpamaaWLast
import Derived.Test.YtapmccfnjlpamaaWTab
import Derived.Test.YtapmccfnjlpamaaWFour
import Derived.Test.YtapmccfnjlpamaaWQPut
import Derived.Test.YtapmccfnjlpamaaWApart
import Derived.Test.YtapmccfnjlpamaaWArr
import Derived.Test.YtapmccfnjlpamaaWZeros
import Derived.Test.YtapmccfnjlpamaaWFoot
import Derived.Test.YtapmccfnjlpamaaWKept
import Derived.Test.YtapmccfnjlpamaaWShare
import Derived.Test.YtapmccfnjlpamaaWN
import Derived.Test.YtapmccfnjlpamaaWFootNe
import Derived.Test.YtapmccfnjlpamaaWAt
import Derived.Test.YtapmccfnjlpamaaWEqStruct
import Derived.Test.YtapmccfnjlpamaaWRepsOne
import Derived.Test.YtapmccfnjlpamaaWInv
import Derived.Test.YtapmccfnjlpamaaWInvWords
import Derived.Test.YtapmccfnjlpamaaWGuard
import Derived.Test.YtapmccfnjlpamaaWNEv
import Derived.Test.YtapmccfnjlpamaaWMore
namespace Go.Proofs.Ytapmccfnjlpamaa.PFnExactTermsOk
open Go.RowKit Go.Proofs.YtapmccfnjlpamaaW.PrintWords Go.Proofs.YtapmccfnjlpamaaW.PrintLast Go.Proofs.YtapmccfnjlpamaaW.PrintMore
attribute [local go_sem] max2_int min2_int max_two min_two max_three min_three max_four min_four   -- for this text's walks alone
set_option linter.unusedVariables false
set_option linter.unusedSimpArgs false



def errW : Option Int → Value
  | none => .nilIface
  | some c => .iface 0 (.int .i64 c)
theorem errW_none : errW none = .nilIface := rfl
theorem errW_some (c : Int) : errW (some c) = .iface 0 (.int .i64 c) := rfl

theorem info3 : (Try.prog.info? 3).map (fun i => (i.zero, i.size, i.bytes)) = some (some (.int .i64 0), 1, 8) := by kernel_rfl
-- the values' own types

end Go.Proofs.Ytapmccfnjlpamaa.PFnExactTermsOk
