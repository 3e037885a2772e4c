/- Words on memory and order that the walks of this claim use (lines that the kit's print wrote, those that nothing here uses struck). -/
import Derived.Test.YtebihngdlokhfaaDoorWInv
import Derived.Test.YtebihngdlokhfaaDoorWFootNe
namespace Go.Proofs.YtebihngdlokhfaaDoorW.PrintWords
open Go.RowKit
end Go.Proofs.YtebihngdlokhfaaDoorW.PrintWords
namespace Go.Proofs.YtebihngdlokhfaaDoorW.PrintLast
section
variable {ops : Array Oper} {a : Act} {o og : Oper} {g : Nat} {t : Tmp} {u : Bool}
end
end Go.Proofs.YtebihngdlokhfaaDoorW.PrintLast
