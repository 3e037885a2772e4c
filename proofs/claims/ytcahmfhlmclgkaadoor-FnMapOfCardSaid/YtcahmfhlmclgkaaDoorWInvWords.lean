/- Words on memory and order that the walks of this claim use (lines that the kit's print wrote, those that nothing here uses struck). -/
import Derived.Test.YtcahmfhlmclgkaaDoorWInv
import Derived.Test.YtcahmfhlmclgkaaDoorWFootNe
namespace Go.Proofs.YtcahmfhlmclgkaaDoorW.PrintWords
open Go.RowKit
end Go.Proofs.YtcahmfhlmclgkaaDoorW.PrintWords
namespace Go.Proofs.YtcahmfhlmclgkaaDoorW.PrintLast
section
variable {ops : Array Oper} {a : Act} {o og : Oper} {g : Nat} {t : Tmp} {u : Bool}
end
end Go.Proofs.YtcahmfhlmclgkaaDoorW.PrintLast
