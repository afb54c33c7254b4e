-- printed by wprint.py (this session's program over the kit's print.py)
import Derived.Test.YthcikldhlohjbaaPTx0
import Derived.Test.YthcikldhlohjbaaTree
namespace Go.Proofs.Ythcikldhlohjbaa.PT
open Go.RowKit Go.Proofs.YthcikldhlohjbaaW.PrintWords Go.Proofs.YthcikldhlohjbaaW.PrintLast Go.Proofs.YthcikldhlohjbaaW.PrintMore
attribute [local go_sem] max2_int min2_int max_two min_two max_three min_three max_four min_four   -- for this text's walks alone
set_option linter.unusedVariables false
set_option linter.unusedSimpArgs false

/-! ### api_Account_96: function 96 -/
def api_Account_96.f (l0 : List (S94)) : Option ((List (S94))) := if l0.length < 3518437208883 then some l0 else none
theorem api_Account_96.calls (A0 : Option Addr) (c0 : Nat) (l0 : List (S94)) (r : List (S94)) (w : World) (hr0 : Kd.C k94 w A0 l0.length l0) (hc0 : l0.length ≤ c0) (h : api_Account_96.f l0 = some r) : Calls Try.prog 96 #[.slice A0 l0.length c0] w fun e w' => ∃ v0_ : Value, e = .returned (v0_) ∧ Kd.R k94 94 w' w.heap.size (fun _ => True) v0_ r ∧ Below w.heap.size w w' := by
  unfold api_Account_96.f at h
  split at h
  · obtain rfl := Option.some.inj h
    exact Go.Proofs.Ythcikldhlohjbaa.Gen.clone94 k94 rfl flat94 l0 A0 c0 w hr0 hc0 (by omega)
  · cases h

end Go.Proofs.Ythcikldhlohjbaa.PT
