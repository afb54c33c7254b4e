-- printed by wprint.py (this session's program over the kit's print.py)
import Derived.Test.YtfggcdpipolahaaPFFileNumbersx0
namespace Go.Proofs.Ytfggcdpipolahaa.PFFileNumbers
open Go.RowKit Go.Proofs.YtfggcdpipolahaaW.PrintWords Go.Proofs.YtfggcdpipolahaaW.PrintLast Go.Proofs.YtfggcdpipolahaaW.PrintMore
attribute [local go_sem] max2_int min2_int max_two min_two max_three min_three max_four min_four   -- for this text's walks alone
set_option linter.unusedVariables false
set_option linter.unusedSimpArgs false

/-! ### musterlaw06_FileNumbers: function 6 -/
def musterlaw06_FileNumbers.f : Option Bool := some true
/-- Proved by a walk of its own: nothing is left over. -/
def musterlaw06_FileNumbers.Pure : Prop := True
theorem musterlaw06_FileNumbers.walk (_ : musterlaw06_FileNumbers.Pure)  (w : World)  :
    Calls Try.prog 6 #[] w fun e w' => e = .returned (.bool true) ∧ Below w.heap.size w w' := by
  exact PF.numbers_law w

end Go.Proofs.Ytfggcdpipolahaa.PFFileNumbers
