-- printed by wprint.py (this session's program over the kit's print.py)
import Derived.Test.YtcnobkcddgcifaaPTx0
import Derived.Test.YtcnobkcddgcifaaTree
namespace Go.Proofs.Ytcnobkcddgcifaa.PT
open Go.RowKit Go.Proofs.YtcnobkcddgcifaaW.PrintWords Go.Proofs.YtcnobkcddgcifaaW.PrintLast Go.Proofs.YtcnobkcddgcifaaW.PrintMore
attribute [local go_sem] max2_int min2_int max_two min_two max_three min_three max_four min_four   -- for this text's walks alone
set_option linter.unusedVariables false
set_option linter.unusedSimpArgs false

/-! ### tree_Find: function 28 -/
def tree_Find.f (l0 : List (S57)) (a1 : ByteArray) : Option (Int × Bool) := some (findA l0 a1)
theorem tree_Find.calls (A0 : Option Addr) (c0 : Nat) (l0 : List (S57)) (a1 : ByteArray) (r1 : Int) (r2 : Bool) (w : World) (hr0 : Kd.C k57 w A0 l0.length l0) (hc0 : l0.length ≤ c0) (h : tree_Find.f l0 a1 = some (r1, r2)) : Calls Try.prog 28 #[.slice A0 l0.length c0, .string a1] w fun e w' => e = .returned (.tuple #[.int .i64 r1, .bool r2]) ∧ Below w.heap.size w w' := by
  have hh := Option.some.inj h
  have h1 : r1 = (findA l0 a1).1 := by rw [hh]
  have h2 : r2 = (findA l0 a1).2 := by rw [hh]
  subst h1 h2
  exact find_calls l0 A0 c0 a1 w hr0 hc0

end Go.Proofs.Ytcnobkcddgcifaa.PT
