-- PRINTED BY print.sh 35421559b90ae4d0a3588c463048766b98c2df88dd9212a6774a882060cdf62d: not written by this session
import Derived.Test.YtndffjmghfmjjaaProg
import Derived.Below
import Derived.Deep.Draws
import Derived.Deep.AppendLies
import Derived.Maps.AppendAt
import Derived.OwnWalk
import Derived.Laws.BytesArg
import Derived.Laws.MakeOwn
import Derived.Laws.OwnMore
import Derived.Deep.OwnRows
import Derived.Tactics
import Derived.Lib.ConvBytes
import Derived.Laws.Slices
import Derived.WalkKit
import Derived.KernelRfl
import Derived.RowKit3
import Derived.Deep.LoopGhost
import Derived.Deep.QuietTactic
import Derived.BigQuiet
import Derived.WideLaws
import Derived.Deep.DeepCutAuto
import Derived.Deep.CutBlock
import Derived.Deep.RegionHeld3
import Derived.Laws.Rows
import Derived.Lib.AppendStr
import Derived.ArgAppend
import Derived.Laws.IdiomCopy
import Derived.OrdersHeld
import Derived.Laws.BitsLemmas
import Derived.RowKit
import Derived.Test.YtndffjmghfmjjaaWWords
import Derived.Test.YtndffjmghfmjjaaWLast
import Derived.Test.YtndffjmghfmjjaaWTab
import Derived.Test.YtndffjmghfmjjaaWFour
import Derived.Test.YtndffjmghfmjjaaWQPut
import Derived.Test.YtndffjmghfmjjaaWApart
import Derived.Test.YtndffjmghfmjjaaWArr
import Derived.Test.YtndffjmghfmjjaaWZeros
import Derived.Test.YtndffjmghfmjjaaWFoot
import Derived.Test.YtndffjmghfmjjaaWKept
import Derived.Test.YtndffjmghfmjjaaWShare
import Derived.Test.YtndffjmghfmjjaaWN
import Derived.Test.YtndffjmghfmjjaaWFootNe
import Derived.Test.YtndffjmghfmjjaaWAt
import Derived.Test.YtndffjmghfmjjaaWEqStruct
import Derived.Test.YtndffjmghfmjjaaWRepsOne
import Derived.Test.YtndffjmghfmjjaaWInv
import Derived.Test.YtndffjmghfmjjaaWInvWords
import Derived.Test.YtndffjmghfmjjaaWGuard
import Derived.Test.YtndffjmghfmjjaaWNEv
import Derived.Test.YtndffjmghfmjjaaWMore
namespace Go.Proofs.Ytndffjmghfmjjaa.PMipmapSizes
open Go.RowKit Go.Proofs.YtndffjmghfmjjaaW.PrintWords Go.Proofs.YtndffjmghfmjjaaW.PrintLast Go.Proofs.YtndffjmghfmjjaaW.PrintMore
attribute [local go_sem] max2_int min2_int max_two min_two max_three min_three max_four min_four   -- for this text's walks alone
set_option linter.unusedVariables false
set_option linter.unusedSimpArgs false



def errW : Option Int → Value
  | none => .nilIface
  | some c => .iface 0 (.int .i64 c)
theorem errW_none : errW none = .nilIface := rfl
theorem errW_some (c : Int) : errW (some c) = .iface 0 (.int .i64 c) := rfl

-- the values' own types

end Go.Proofs.Ytndffjmghfmjjaa.PMipmapSizes
