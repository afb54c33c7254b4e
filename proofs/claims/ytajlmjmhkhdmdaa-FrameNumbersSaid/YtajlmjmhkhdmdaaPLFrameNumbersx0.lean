-- printed by wprint.py (this session's program over the kit's print.py)
import Derived.Test.YtajlmjmhkhdmdaaProg
import Derived.Test.YtajlmjmhkhdmdaaFrNum
import Derived.Below
import Derived.Deep.Draws
import Derived.Deep.AppendLies
import Derived.Maps.AppendAt
import Derived.OwnWalk
import Derived.Laws.BytesArg
import Derived.Laws.MakeOwn
import Derived.Laws.OwnMore
import Derived.Deep.OwnRows
import Derived.Tactics
import Derived.Lib.ConvBytes
import Derived.Laws.Slices
import Derived.WalkKit
import Derived.KernelRfl
import Derived.RowKit3
import Derived.Deep.LoopGhost
import Derived.Deep.QuietTactic
import Derived.BigQuiet
import Derived.WideLaws
import Derived.Deep.DeepCutAuto
import Derived.Deep.CutBlock
import Derived.Deep.RegionHeld3
import Derived.Laws.Rows
import Derived.Lib.AppendStr
import Derived.ArgAppend
import Derived.Laws.IdiomCopy
import Derived.OrdersHeld
import Derived.Laws.BitsLemmas
import Derived.RowKit
import Derived.Test.YtajlmjmhkhdmdaaWWords
import Derived.Test.YtajlmjmhkhdmdaaWLast
import Derived.Test.YtajlmjmhkhdmdaaWTab
import Derived.Test.YtajlmjmhkhdmdaaWFour
import Derived.Test.YtajlmjmhkhdmdaaWQPut
import Derived.Test.YtajlmjmhkhdmdaaWApart
import Derived.Test.YtajlmjmhkhdmdaaWArr
import Derived.Test.YtajlmjmhkhdmdaaWZeros
import Derived.Test.YtajlmjmhkhdmdaaWFoot
import Derived.Test.YtajlmjmhkhdmdaaWKept
import Derived.Test.YtajlmjmhkhdmdaaWShare
import Derived.Test.YtajlmjmhkhdmdaaWN
import Derived.Test.YtajlmjmhkhdmdaaWFootNe
import Derived.Test.YtajlmjmhkhdmdaaWAt
import Derived.Test.YtajlmjmhkhdmdaaWEqStruct
import Derived.Test.YtajlmjmhkhdmdaaWRepsOne
import Derived.Test.YtajlmjmhkhdmdaaWInv
import Derived.Test.YtajlmjmhkhdmdaaWInvWords
import Derived.Test.YtajlmjmhkhdmdaaWGuard
import Derived.Test.YtajlmjmhkhdmdaaWNEv
import Derived.Test.YtajlmjmhkhdmdaaWMore
namespace Go.Proofs.Ytajlmjmhkhdmdaa.PLFrameNumbers
open Go.RowKit Go.Proofs.YtajlmjmhkhdmdaaW.PrintWords Go.Proofs.YtajlmjmhkhdmdaaW.PrintLast Go.Proofs.YtajlmjmhkhdmdaaW.PrintMore
attribute [local go_sem] max2_int min2_int max_two min_two max_three min_three max_four min_four   -- for this text's walks alone
set_option linter.unusedVariables false
set_option linter.unusedSimpArgs false



def errW : Option Int → Value
  | none => .nilIface
  | some c => .iface 0 (.int .i64 c)
theorem errW_none : errW none = .nilIface := rfl
theorem errW_some (c : Int) : errW (some c) = .iface 0 (.int .i64 c) := rfl

-- the values' own types

end Go.Proofs.Ytajlmjmhkhdmdaa.PLFrameNumbers
