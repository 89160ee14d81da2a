/- Words of the walks: what this claim needs of the printed words. No condition. -/
import Derived.Test.YtmpmennepjkocaaWShare
import Derived.Test.YtmpmennepjkocaaWZeros
/-! ### 47. N: a row of the call's own whose elements share (what they lead to is only read) -/
namespace Go.Proofs.YtmpmennepjkocaaW.PrintWords
open Go.RowKit
namespace Kd
section
variable {α : Type} {d : Kd α} {e base n cc g : Nat} {ok ok' okp S : Nat → Prop} {w w1 W W1 : World} {A : Option Addr} {u v v1 : Value} {xs : List α} {x : α} {c : List Value}
end
end Kd
end Go.Proofs.YtmpmennepjkocaaW.PrintWords
