/- Words on memory and order that the walks of this claim use (lines that the kit's print wrote, those that nothing here uses struck). -/
import Derived.Test.YtebihngdlokhfaaDoorWApart
import Derived.Test.YtebihngdlokhfaaDoorWArr
namespace Go.Proofs.YtebihngdlokhfaaDoorW.PrintWords
open Go.RowKit
section
variable {P : Program}
end
namespace Kd
section
variable {P : Program} {ops : Array Oper} {rest : List Oper} {o : Oper} {a : Act} {Q : Exit → Act → World → Prop} {Kc : Act → World → Prop} {α : Type}
end
section
variable {α : Type} {d : Kd α} {e : Nat} {w : World} {base : Nat} {ok : Nat → Prop} {v : Value} {xs : List α}
end
section
variable {P : Program} {ops : Array Oper} {rest : List Oper} {o : Oper} {a : Act} {Q : Exit → Act → World → Prop} {Kc : Act → World → Prop} {α : Type}
end
end Kd
end Go.Proofs.YtebihngdlokhfaaDoorW.PrintWords
