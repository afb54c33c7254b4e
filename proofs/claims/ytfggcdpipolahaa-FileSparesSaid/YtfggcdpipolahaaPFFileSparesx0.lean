-- printed by wprint.py (this session's program over the kit's print.py)
import Derived.Test.YtfggcdpipolahaaProg
import Derived.Test.YtfggcdpipolahaaFiSpa
import Derived.Below
import Derived.Deep.Draws
import Derived.Deep.AppendLies
import Derived.Maps.AppendAt
import Derived.OwnWalk
import Derived.Laws.BytesArg
import Derived.Laws.MakeOwn
import Derived.Laws.OwnMore
import Derived.Deep.OwnRows
import Derived.Tactics
import Derived.Lib.ConvBytes
import Derived.Laws.Slices
import Derived.WalkKit
import Derived.KernelRfl
import Derived.RowKit3
import Derived.Deep.LoopGhost
import Derived.Deep.QuietTactic
import Derived.BigQuiet
import Derived.WideLaws
import Derived.Deep.DeepCutAuto
import Derived.Deep.CutBlock
import Derived.Deep.RegionHeld3
import Derived.Laws.Rows
import Derived.Lib.AppendStr
import Derived.ArgAppend
import Derived.Laws.IdiomCopy
import Derived.OrdersHeld
import Derived.Laws.BitsLemmas
import Derived.RowKit
import Derived.Test.YtfggcdpipolahaaWWords
import Derived.Test.YtfggcdpipolahaaWLast
import Derived.Test.YtfggcdpipolahaaWTab
import Derived.Test.YtfggcdpipolahaaWQPut
import Derived.Test.YtfggcdpipolahaaWApart
import Derived.Test.YtfggcdpipolahaaWArr
import Derived.Test.YtfggcdpipolahaaWZeros
import Derived.Test.YtfggcdpipolahaaWFoot
import Derived.Test.YtfggcdpipolahaaWKept
import Derived.Test.YtfggcdpipolahaaWShare
import Derived.Test.YtfggcdpipolahaaWN
import Derived.Test.YtfggcdpipolahaaWGuard
import Derived.Test.YtfggcdpipolahaaWNEv
import Derived.Test.YtfggcdpipolahaaWMore
namespace Go.Proofs.Ytfggcdpipolahaa.PFFileSpares
open Go.RowKit Go.Proofs.YtfggcdpipolahaaW.PrintWords Go.Proofs.YtfggcdpipolahaaW.PrintLast Go.Proofs.YtfggcdpipolahaaW.PrintMore
attribute [local go_sem] max2_int min2_int max_two min_two max_three min_three max_four min_four   -- for this text's walks alone
set_option linter.unusedVariables false
set_option linter.unusedSimpArgs false



def errW : Option Int → Value
  | none => .nilIface
  | some c => .iface 0 (.int .i64 c)
theorem errW_none : errW none = .nilIface := rfl
theorem errW_some (c : Int) : errW (some c) = .iface 0 (.int .i64 c) := rfl

-- the values' own types

end Go.Proofs.Ytfggcdpipolahaa.PFFileSpares
