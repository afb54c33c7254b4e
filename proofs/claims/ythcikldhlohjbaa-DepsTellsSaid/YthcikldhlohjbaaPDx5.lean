-- printed by wprint.py (this session's program over the kit's print.py)
import Derived.Test.YthcikldhlohjbaaPDx0
import Derived.Test.YthcikldhlohjbaaDepsAwake
namespace Go.Proofs.Ythcikldhlohjbaa.PD
open Go.RowKit Go.Proofs.YthcikldhlohjbaaW.PrintWords Go.Proofs.YthcikldhlohjbaaW.PrintLast Go.Proofs.YthcikldhlohjbaaW.PrintMore
attribute [local go_sem] max2_int min2_int max_two min_two max_three min_three max_four min_four   -- for this text's walks alone
set_option linter.unusedVariables false
set_option linter.unusedSimpArgs false

/-! ### musterlaw20_awake: function 14 -/
def musterlaw20_awake.f : Option (Bool) := some true
theorem musterlaw20_awake.calls (r : Bool) (w : World) (h : musterlaw20_awake.f = some r) : Calls Try.prog 14 #[] w fun e w' => e = .returned (.bool r) ∧ Below w.heap.size w w' := by
  obtain rfl := Option.some.inj h
  exact awake20_calls w

end Go.Proofs.Ythcikldhlohjbaa.PD
