-- PRINTED BY print.sh 35421559b90ae4d0a3588c463048766b98c2df88dd9212a6774a882060cdf62d: not written by this session
import Derived.Test.YtjeihkabobjlbaaProg
import Derived.Below
import Derived.Deep.Draws
import Derived.Deep.AppendLies
import Derived.Maps.AppendAt
import Derived.OwnWalk
import Derived.Laws.BytesArg
import Derived.Laws.MakeOwn
import Derived.Laws.OwnMore
import Derived.Deep.OwnRows
import Derived.Tactics
import Derived.Lib.ConvBytes
import Derived.Laws.Slices
import Derived.WalkKit
import Derived.KernelRfl
import Derived.RowKit3
import Derived.Deep.LoopGhost
import Derived.Deep.QuietTactic
import Derived.BigQuiet
import Derived.WideLaws
import Derived.Deep.DeepCutAuto
import Derived.Deep.CutBlock
import Derived.Deep.RegionHeld3
import Derived.Laws.Rows
import Derived.Lib.AppendStr
import Derived.ArgAppend
import Derived.Laws.IdiomCopy
import Derived.OrdersHeld
import Derived.Laws.BitsLemmas
import Derived.RowKit
import Derived.Test.YtjeihkabobjlbaaWWords
import Derived.Test.YtjeihkabobjlbaaWLast
import Derived.Test.YtjeihkabobjlbaaWTab
import Derived.Test.YtjeihkabobjlbaaWFour
import Derived.Test.YtjeihkabobjlbaaWQPut
import Derived.Test.YtjeihkabobjlbaaWApart
import Derived.Test.YtjeihkabobjlbaaWArr
import Derived.Test.YtjeihkabobjlbaaWZeros
import Derived.Test.YtjeihkabobjlbaaWFoot
import Derived.Test.YtjeihkabobjlbaaWKept
import Derived.Test.YtjeihkabobjlbaaWShare
import Derived.Test.YtjeihkabobjlbaaWN
import Derived.Test.YtjeihkabobjlbaaWFootNe
import Derived.Test.YtjeihkabobjlbaaWAt
import Derived.Test.YtjeihkabobjlbaaWEqStruct
import Derived.Test.YtjeihkabobjlbaaWRepsOne
import Derived.Test.YtjeihkabobjlbaaWInv
import Derived.Test.YtjeihkabobjlbaaWInvWords
import Derived.Test.YtjeihkabobjlbaaWGuard
import Derived.Test.YtjeihkabobjlbaaWNEv
import Derived.Test.YtjeihkabobjlbaaWMore
namespace Go.Proofs.Ytjeihkabobjlbaa.PFnExactSelect
open Go.RowKit Go.Proofs.YtjeihkabobjlbaaW.PrintWords Go.Proofs.YtjeihkabobjlbaaW.PrintLast Go.Proofs.YtjeihkabobjlbaaW.PrintMore
attribute [local go_sem] max2_int min2_int max_two min_two max_three min_three max_four min_four   -- for this text's walks alone
set_option linter.unusedVariables false
set_option linter.unusedSimpArgs false



def errW : Option Int → Value
  | none => .nilIface
  | some c => .iface 0 (.int .i64 c)
theorem errW_none : errW none = .nilIface := rfl
theorem errW_some (c : Int) : errW (some c) = .iface 0 (.int .i64 c) := rfl

-- the values' own types

end Go.Proofs.Ytjeihkabobjlbaa.PFnExactSelect
