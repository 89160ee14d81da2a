/- Words of the walks: what this claim needs of the printed words. No condition. -/
import Derived.Test.YtmpmennepjkocaaWInv
import Derived.Test.YtmpmennepjkocaaWFootNe
namespace Go.Proofs.YtmpmennepjkocaaW.PrintWords
open Go.RowKit
end Go.Proofs.YtmpmennepjkocaaW.PrintWords
namespace Go.Proofs.YtmpmennepjkocaaW.PrintLast
section
variable {ops : Array Oper} {a : Act} {o og : Oper} {g : Nat} {t : Tmp} {u : Bool}
end
end Go.Proofs.YtmpmennepjkocaaW.PrintLast
