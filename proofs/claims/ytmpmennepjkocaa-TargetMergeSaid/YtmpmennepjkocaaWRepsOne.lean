/- Words of the walks: what this claim needs of the printed words. No condition. -/
import Derived.Test.YtmpmennepjkocaaWWords
/-! ### 55. Reps told from the front, no append: for rows of one-cell elements and of wider ones -/
namespace Go.Proofs.YtmpmennepjkocaaW.PrintWords
end Go.Proofs.YtmpmennepjkocaaW.PrintWords
