/- What the Go functions of this text come to, laid by a program of this session (wip/tools/pp.py) out of the translation: for every input. -/
import Derived.Test.YtjhijdkliepkpaaProg
import Derived.Below
import Derived.Deep.Draws
import Derived.Deep.AppendLies
import Derived.Maps.AppendAt
import Derived.OwnWalk
import Derived.Laws.BytesArg
import Derived.Laws.MakeOwn
import Derived.Laws.OwnMore
import Derived.Deep.OwnRows
import Derived.Tactics
import Derived.Lib.ConvBytes
import Derived.Laws.Slices
import Derived.WalkKit
import Derived.KernelRfl
import Derived.RowKit3
import Derived.Deep.LoopGhost
import Derived.Deep.QuietTactic
import Derived.BigQuiet
import Derived.WideLaws
import Derived.Deep.DeepCutAuto
import Derived.Deep.CutBlock
import Derived.Deep.RegionHeld3
import Derived.Laws.Rows
import Derived.Lib.AppendStr
import Derived.ArgAppend
import Derived.Laws.IdiomCopy
import Derived.OrdersHeld
import Derived.Laws.BitsLemmas
import Derived.RowKit
import Derived.Test.YtjhijdkliepkpaaWWords
import Derived.Test.YtjhijdkliepkpaaWLast
import Derived.Test.YtjhijdkliepkpaaWTab
import Derived.Test.YtjhijdkliepkpaaWFour
import Derived.Test.YtjhijdkliepkpaaWQPut
import Derived.Test.YtjhijdkliepkpaaWApart
import Derived.Test.YtjhijdkliepkpaaWArr
import Derived.Test.YtjhijdkliepkpaaWZeros
import Derived.Test.YtjhijdkliepkpaaWFoot
import Derived.Test.YtjhijdkliepkpaaWKept
import Derived.Test.YtjhijdkliepkpaaWShare
import Derived.Test.YtjhijdkliepkpaaWN
import Derived.Test.YtjhijdkliepkpaaWFootNe
import Derived.Test.YtjhijdkliepkpaaWAt
import Derived.Test.YtjhijdkliepkpaaWEqStruct
import Derived.Test.YtjhijdkliepkpaaWRepsOne
import Derived.Test.YtjhijdkliepkpaaWInv
import Derived.Test.YtjhijdkliepkpaaWInvWords
import Derived.Test.YtjhijdkliepkpaaWGuard
import Derived.Test.YtjhijdkliepkpaaWNEv
import Derived.Test.YtjhijdkliepkpaaWMore
namespace Go.Proofs.Ytjhijdkliepkpaa.PLst
open Go.RowKit Go.Proofs.YtjhijdkliepkpaaW.PrintWords Go.Proofs.YtjhijdkliepkpaaW.PrintLast Go.Proofs.YtjhijdkliepkpaaW.PrintMore
attribute [local go_sem] max2_int min2_int max_two min_two max_three min_three max_four min_four   -- for this text's walks alone
set_option linter.unusedVariables false
set_option linter.unusedSimpArgs false



def errW : Option Int → Value
  | none => .nilIface
  | some c => .iface 0 (.int .i64 c)
theorem errW_none : errW none = .nilIface := rfl
theorem errW_some (c : Int) : errW (some c) = .iface 0 (.int .i64 c) := rfl

-- the values' own types

end Go.Proofs.Ytjhijdkliepkpaa.PLst
