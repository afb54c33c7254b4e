-- printed by wprint.py (this session's program over the kit's print.py)
import Derived.Test.YtcnobkcddgcifaaPTx0
import Derived.Test.YtcnobkcddgcifaaTreeB
namespace Go.Proofs.Ytcnobkcddgcifaa.PT
open Go.RowKit Go.Proofs.YtcnobkcddgcifaaW.PrintWords Go.Proofs.YtcnobkcddgcifaaW.PrintLast Go.Proofs.YtcnobkcddgcifaaW.PrintMore
attribute [local go_sem] max2_int min2_int max_two min_two max_three min_three max_four min_four   -- for this text's walks alone
set_option linter.unusedVariables false
set_option linter.unusedSimpArgs false

/-! ### tree_Right: function 39 -/
def tree_Right.f (l0 : List (S57)) : Option (Bool) := some (rightA l0)
theorem tree_Right.calls (A0 : Option Addr) (c0 : Nat) (l0 : List (S57)) (r : Bool) (w : World) (hr0 : Kd.C k57 w A0 l0.length l0) (hc0 : l0.length ≤ c0) (h : tree_Right.f l0 = some r) : Calls Try.prog 39 #[.slice A0 l0.length c0] w fun e w' => e = .returned (.bool r) ∧ Below w.heap.size w w' := by
  obtain rfl := Option.some.inj h
  exact treeRight_calls l0 A0 c0 w hr0 hc0

end Go.Proofs.Ytcnobkcddgcifaa.PT
