-- printed by wprint.py (this session's program over the kit's print.py)
import Derived.Test.YtnipddabgedoaaaPNx0
namespace Go.Proofs.Ytnipddabgedoaaa.PN
open Go.RowKit Go.Proofs.YtnipddabgedoaaaW.PrintWords Go.Proofs.YtnipddabgedoaaaW.PrintLast Go.Proofs.YtnipddabgedoaaaW.PrintMore
attribute [local go_sem] max2_int min2_int max_two min_two max_three min_three max_four min_four   -- for this text's walks alone
set_option linter.unusedVariables false
set_option linter.unusedSimpArgs false

/-! ### musterlaw02_SumsNumbers: function 7 -/
def musterlaw02_SumsNumbers.f : Option Bool := some true
/-- Proved by a walk of its own: nothing is left over. -/
def musterlaw02_SumsNumbers.Pure : Prop := True
theorem musterlaw02_SumsNumbers.walk (_ : musterlaw02_SumsNumbers.Pure)  (w : World)  :
    Calls Try.prog 7 #[] w fun e w' => e = .returned (.bool true) ∧ Below w.heap.size w w' := by
  exact Sums.numbers_law w

end Go.Proofs.Ytnipddabgedoaaa.PN
