-- printed by wprint.py (this session's program over the kit's print.py)
import Derived.Test.YtnipddabgedoaaaProg
import Derived.Test.YtnipddabgedoaaaOctNumbers
import Derived.Below
import Derived.Deep.Draws
import Derived.Deep.AppendLies
import Derived.Maps.AppendAt
import Derived.OwnWalk
import Derived.Laws.BytesArg
import Derived.Laws.MakeOwn
import Derived.Laws.OwnMore
import Derived.Deep.OwnRows
import Derived.Tactics
import Derived.Lib.ConvBytes
import Derived.Laws.Slices
import Derived.WalkKit
import Derived.KernelRfl
import Derived.RowKit3
import Derived.Deep.LoopGhost
import Derived.Deep.QuietTactic
import Derived.BigQuiet
import Derived.WideLaws
import Derived.Deep.DeepCutAuto
import Derived.Deep.CutBlock
import Derived.Deep.RegionHeld3
import Derived.Laws.Rows
import Derived.Lib.AppendStr
import Derived.ArgAppend
import Derived.Laws.IdiomCopy
import Derived.OrdersHeld
import Derived.Laws.BitsLemmas
import Derived.RowKit
import Derived.Test.YtnipddabgedoaaaWWords
import Derived.Test.YtnipddabgedoaaaWLast
import Derived.Test.YtnipddabgedoaaaWTab
import Derived.Test.YtnipddabgedoaaaWFour
import Derived.Test.YtnipddabgedoaaaWQPut
import Derived.Test.YtnipddabgedoaaaWApart
import Derived.Test.YtnipddabgedoaaaWArr
import Derived.Test.YtnipddabgedoaaaWZeros
import Derived.Test.YtnipddabgedoaaaWFoot
import Derived.Test.YtnipddabgedoaaaWKept
import Derived.Test.YtnipddabgedoaaaWShare
import Derived.Test.YtnipddabgedoaaaWN
import Derived.Test.YtnipddabgedoaaaWFootNe
import Derived.Test.YtnipddabgedoaaaWAt
import Derived.Test.YtnipddabgedoaaaWEqStruct
import Derived.Test.YtnipddabgedoaaaWRepsOne
import Derived.Test.YtnipddabgedoaaaWInv
import Derived.Test.YtnipddabgedoaaaWInvWords
import Derived.Test.YtnipddabgedoaaaWGuard
import Derived.Test.YtnipddabgedoaaaWNEv
import Derived.Test.YtnipddabgedoaaaWMore
namespace Go.Proofs.Ytnipddabgedoaaa.PM
open Go.RowKit Go.Proofs.YtnipddabgedoaaaW.PrintWords Go.Proofs.YtnipddabgedoaaaW.PrintLast Go.Proofs.YtnipddabgedoaaaW.PrintMore
attribute [local go_sem] max2_int min2_int max_two min_two max_three min_three max_four min_four   -- for this text's walks alone
set_option linter.unusedVariables false
set_option linter.unusedSimpArgs false



def errW : Option Int → Value
  | none => .nilIface
  | some c => .iface 0 (.int .i64 c)
theorem errW_none : errW none = .nilIface := rfl
theorem errW_some (c : Int) : errW (some c) = .iface 0 (.int .i64 c) := rfl

-- the values' own types

end Go.Proofs.Ytnipddabgedoaaa.PM
