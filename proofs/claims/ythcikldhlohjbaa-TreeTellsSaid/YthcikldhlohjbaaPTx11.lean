-- printed by wprint.py (this session's program over the kit's print.py)
import Derived.Test.YthcikldhlohjbaaPTx0
import Derived.Test.YthcikldhlohjbaaTreeC
namespace Go.Proofs.Ythcikldhlohjbaa.PT
open Go.RowKit Go.Proofs.YthcikldhlohjbaaW.PrintWords Go.Proofs.YthcikldhlohjbaaW.PrintLast Go.Proofs.YthcikldhlohjbaaW.PrintMore
attribute [local go_sem] max2_int min2_int max_two min_two max_three min_three max_four min_four   -- for this text's walks alone
set_option linter.unusedVariables false
set_option linter.unusedSimpArgs false

/-! ### musterref14_Right: function 65 -/
def musterref14_Right.f (l0 : List (S94)) : Option (Bool) := if l0.length < 9000000000000000000 ∧ l0.all (fun x => decide (x.f0.size < 9000000000000000000)) = true then some (rightA l0) else none
theorem musterref14_Right.calls (A0 : Option Addr) (c0 : Nat) (l0 : List (S94)) (r : Bool) (w : World) (hr0 : Kd.C k94 w A0 l0.length l0) (hc0 : l0.length ≤ c0) (h : musterref14_Right.f l0 = some r) : Calls Try.prog 65 #[.slice A0 l0.length c0] w fun e w' => e = .returned (.bool r) ∧ Below w.heap.size w w' := by
  unfold musterref14_Right.f at h
  split at h
  · rename_i hz
    obtain rfl := Option.some.inj h
    exact refRight_calls l0 A0 c0 w hz.1 (fun x hx => of_decide_eq_true (List.all_eq_true.1 hz.2 x hx)) hr0 hc0
  · cases h

end Go.Proofs.Ythcikldhlohjbaa.PT
