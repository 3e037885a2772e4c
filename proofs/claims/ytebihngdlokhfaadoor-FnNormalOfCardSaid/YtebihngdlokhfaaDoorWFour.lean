/- Words on memory and order that the walks of this claim use (lines that the kit's print wrote, those that nothing here uses struck). -/
import Derived.Test.YtebihngdlokhfaaDoorWTab
namespace Go.Proofs.YtebihngdlokhfaaDoorW.PrintLast
section
variable {P : Program} {ops : Array Oper} {Q : Exit → Act → World → Prop} {md : Region.Mode} {S : World → Prop} {ds : List Nat} {T : Bool × List (List Nat × List Nat)}
end
end Go.Proofs.YtebihngdlokhfaaDoorW.PrintLast
