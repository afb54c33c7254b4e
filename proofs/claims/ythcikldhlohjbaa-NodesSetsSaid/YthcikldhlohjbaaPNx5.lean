-- printed by wprint.py (this session's program over the kit's print.py)
import Derived.Test.YthcikldhlohjbaaPNx0
import Derived.Test.YthcikldhlohjbaaNodes
namespace Go.Proofs.Ythcikldhlohjbaa.PN
open Go.RowKit Go.Proofs.YthcikldhlohjbaaW.PrintWords Go.Proofs.YthcikldhlohjbaaW.PrintLast Go.Proofs.YthcikldhlohjbaaW.PrintMore
attribute [local go_sem] max2_int min2_int max_two min_two max_three min_three max_four min_four   -- for this text's walks alone
set_option linter.unusedVariables false
set_option linter.unusedSimpArgs false

/-! ### nodes_at: function 82 -/
def nodes_at.f (l0 : List (S55)) (a1 : Int) : Option ((List (S55)) × Int) := some (nodesAt l0 a1)
theorem nodes_at.calls (A0 : Option Addr) (c0 : Nat) (l0 : List (S55)) (a1 : Int) (r1 : List (S55)) (r2 : Int) (w : World) (hr0 : Kd.C k55 w A0 l0.length l0) (hc0 : l0.length ≤ c0) (h : nodes_at.f l0 a1 = some (r1, r2)) : Calls Try.prog 82 #[.slice A0 l0.length c0, .int .i64 a1] w fun e w' => ∃ v0_ : Value, e = .returned (.tuple #[v0_, .int .i64 r2]) ∧ Kd.R k55 55 w' w.heap.size (fun _ => True) v0_ r1 ∧ Below w.heap.size w w' := by
  have hh := Option.some.inj h
  have h1 : r1 = (nodesAt l0 a1).1 := by rw [hh]
  have h2 : r2 = (nodesAt l0 a1).2 := by rw [hh]
  subst h1 h2
  exact at_calls l0 A0 c0 a1 w hr0 hc0

end Go.Proofs.Ythcikldhlohjbaa.PN
