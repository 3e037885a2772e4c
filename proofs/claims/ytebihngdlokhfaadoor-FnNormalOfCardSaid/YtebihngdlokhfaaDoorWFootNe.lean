/- Words on memory and order that the walks of this claim use (lines that the kit's print wrote, those that nothing here uses struck). -/
import Derived.Test.YtebihngdlokhfaaDoorWN
namespace Go.Proofs.YtebihngdlokhfaaDoorW.PrintWords
open Go.RowKit
namespace Kd
section
variable {α : Type} {d : Kd α} {W : World} {g n : Nat} {S ok : Nat → Prop} {A : Option Addr} {ad : Addr} {xs : List α}
end
end Kd
end Go.Proofs.YtebihngdlokhfaaDoorW.PrintWords
