-- printed by wprint.py (this session's program over the kit's print.py)
import Derived.Test.YtfggcdpipolahaaPFFileSparesx0
namespace Go.Proofs.Ytfggcdpipolahaa.PFFileSpares
open Go.RowKit Go.Proofs.YtfggcdpipolahaaW.PrintWords Go.Proofs.YtfggcdpipolahaaW.PrintLast Go.Proofs.YtfggcdpipolahaaW.PrintMore
attribute [local go_sem] max2_int min2_int max_two min_two max_three min_three max_four min_four   -- for this text's walks alone
set_option linter.unusedVariables false
set_option linter.unusedSimpArgs false

/-! ### musterlaw06_FileSpares: function 3 -/
def musterlaw06_FileSpares.f : Option Bool := some true
/-- Proved by a walk of its own: nothing is left over. -/
def musterlaw06_FileSpares.Pure : Prop := True
theorem musterlaw06_FileSpares.walk (_ : musterlaw06_FileSpares.Pure) (a0 : Int) (w : World) (w0 : (Lit.int .i64 a0).wf = true) :
    Calls Try.prog 3 #[.int .i64 a0] w fun e w' => e = .returned (.bool true) ∧ Below w.heap.size w w' := by
  exact PF.spares_law a0 w

end Go.Proofs.Ytfggcdpipolahaa.PFFileSpares
