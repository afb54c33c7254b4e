-- printed by wprint.py (this session's program over the kit's print.py)
import Derived.Test.YthcikldhlohjbaaPDx0
import Derived.Test.YthcikldhlohjbaaDepsC
namespace Go.Proofs.Ythcikldhlohjbaa.PD
open Go.RowKit Go.Proofs.YthcikldhlohjbaaW.PrintWords Go.Proofs.YthcikldhlohjbaaW.PrintLast Go.Proofs.YthcikldhlohjbaaW.PrintMore
attribute [local go_sem] max2_int min2_int max_two min_two max_three min_three max_four min_four   -- for this text's walks alone
set_option linter.unusedVariables false
set_option linter.unusedSimpArgs false

/-! ### deps_Never: function 21 -/
def deps_Never.f (l0 : List (S104)) (l1 : List (S43)) : Option (Bool) := some (depsNever l0 l1)
theorem deps_Never.calls (A0 : Option Addr) (c0 : Nat) (l0 : List (S104)) (A1 : Option Addr) (c1 : Nat) (l1 : List (S43)) (r : Bool) (w : World) (hr0 : Kd.C k104 w A0 l0.length l0) (hc0 : l0.length ≤ c0) (hr1 : Kd.C k43 w A1 l1.length l1) (hc1 : l1.length ≤ c1) (h : deps_Never.f l0 l1 = some r) :
    Calls Try.prog 21 #[.slice A0 l0.length c0, .slice A1 l1.length c1] w fun e w' => e = .returned (.bool r) ∧ Below w.heap.size w w' := by
  obtain rfl := Option.some.inj h
  exact never_calls l0 A0 c0 l1 A1 c1 w hr0 hc0 hr1 hc1
theorem deps_Never.calls_nil (A1 : Option Addr) (c1 : Nat) (l1 : List (S43)) (r : Bool) (w : World) (hr1 : Kd.C k43 w A1 l1.length l1) (hc1 : l1.length ≤ c1) (h : deps_Never.f [] l1 = some r) :
    Calls Try.prog 21 #[.slice none 0 0, .slice A1 l1.length c1] w fun e w' => e = .returned (.bool r) ∧ Below w.heap.size w w' := deps_Never.calls none 0 [] A1 c1 l1 r w (Kd.C_nil _ _) (Nat.le_refl _) hr1 hc1 h

end Go.Proofs.Ythcikldhlohjbaa.PD
