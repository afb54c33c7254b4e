-- printed by wprint.py (this session's program over the kit's print.py)
import Derived.Test.YtajlmjmhkhdmdaaPLFrameNumbersx0
namespace Go.Proofs.Ytajlmjmhkhdmdaa.PLFrameNumbers
open Go.RowKit Go.Proofs.YtajlmjmhkhdmdaaW.PrintWords Go.Proofs.YtajlmjmhkhdmdaaW.PrintLast Go.Proofs.YtajlmjmhkhdmdaaW.PrintMore
attribute [local go_sem] max2_int min2_int max_two min_two max_three min_three max_four min_four   -- for this text's walks alone
set_option linter.unusedVariables false
set_option linter.unusedSimpArgs false

/-! ### musterlaw03_FrameNumbers: function 3 -/
def musterlaw03_FrameNumbers.f : Option Bool := some true
/-- Proved by a walk of its own: nothing is left over. -/
def musterlaw03_FrameNumbers.Pure : Prop := True
theorem musterlaw03_FrameNumbers.walk (_ : musterlaw03_FrameNumbers.Pure)  (w : World)  :
    Calls Try.prog 3 #[] w fun e w' => e = .returned (.bool true) ∧ Below w.heap.size w w' := by
  exact PF.numbers_law w

end Go.Proofs.Ytajlmjmhkhdmdaa.PLFrameNumbers
