/- Words of the walks: what this claim needs of the printed words. No condition. -/
import Derived.Test.YtmpmennepjkocaaWWords
import Derived.Laws.StructEq
/-! ### 53. '==' of structs as_ one Bool -/
namespace Go.Proofs.YtmpmennepjkocaaW.PrintWords
open Go.RowKit
section
variable {P : Program} {d : Nat} {xs ys : Array Value} {f : Field} {fs : List Field} {a b : Value} {r s : Bool} {w : World}
end
end Go.Proofs.YtmpmennepjkocaaW.PrintWords
