-- printed by wprint.py (this session's program over the kit's print.py)
import Derived.Test.YtcnobkcddgcifaaPTx0
import Derived.Test.YtcnobkcddgcifaaQuota
namespace Go.Proofs.Ytcnobkcddgcifaa.PT
open Go.RowKit Go.Proofs.YtcnobkcddgcifaaW.PrintWords Go.Proofs.YtcnobkcddgcifaaW.PrintLast Go.Proofs.YtcnobkcddgcifaaW.PrintMore
attribute [local go_sem] max2_int min2_int max_two min_two max_three min_three max_four min_four   -- for this text's walks alone
set_option linter.unusedVariables false
set_option linter.unusedSimpArgs false

/-! ### quota_limit: function 38 -/
def quota_limit.f (l0 : List Int) : Option (Bool) := some (limQ l0)
theorem quota_limit.calls (A0 : Option Addr) (c0 : Nat) (l0 : List Int) (r : Bool) (w : World) (hr0 : Kd.C (Kd.int .i64) w A0 l0.length l0) (hc0 : l0.length ≤ c0) (h : quota_limit.f l0 = some r) : Calls Try.prog 38 #[.slice A0 l0.length c0] w fun e w' => e = .returned (.bool r) ∧ Below w.heap.size w w' := by
  obtain rfl := Option.some.inj h
  exact limit_calls l0 A0 c0 w hr0 hc0

end Go.Proofs.Ytcnobkcddgcifaa.PT
