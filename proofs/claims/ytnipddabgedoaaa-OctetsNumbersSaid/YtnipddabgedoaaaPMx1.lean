-- printed by wprint.py (this session's program over the kit's print.py)
import Derived.Test.YtnipddabgedoaaaPMx0
namespace Go.Proofs.Ytnipddabgedoaaa.PM
open Go.RowKit Go.Proofs.YtnipddabgedoaaaW.PrintWords Go.Proofs.YtnipddabgedoaaaW.PrintLast Go.Proofs.YtnipddabgedoaaaW.PrintMore
attribute [local go_sem] max2_int min2_int max_two min_two max_three min_three max_four min_four   -- for this text's walks alone
set_option linter.unusedVariables false
set_option linter.unusedSimpArgs false

/-! ### musterlaw01_OctetsNumbers: function 4 -/
def musterlaw01_OctetsNumbers.f : Option Bool := some true
/-- Proved by a walk of its own: nothing is left over. -/
def musterlaw01_OctetsNumbers.Pure : Prop := True
theorem musterlaw01_OctetsNumbers.walk (_ : musterlaw01_OctetsNumbers.Pure)  (w : World)  :
    Calls Try.prog 4 #[] w fun e w' => e = .returned (.bool true) ∧ Below w.heap.size w w' := by
  exact Oct.numbers_law w

end Go.Proofs.Ytnipddabgedoaaa.PM
