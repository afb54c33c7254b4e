-- printed by wprint.py (this session's program over the kit's print.py)
import Derived.Test.YthcikldhlohjbaaPSx0
import Derived.Test.YthcikldhlohjbaaGen
namespace Go.Proofs.Ythcikldhlohjbaa.PS
open Go.RowKit Go.Proofs.YthcikldhlohjbaaW.PrintWords Go.Proofs.YthcikldhlohjbaaW.PrintLast Go.Proofs.YthcikldhlohjbaaW.PrintMore
attribute [local go_sem] max2_int min2_int max_two min_two max_three min_three max_four min_four   -- for this text's walks alone
set_option linter.unusedVariables false
set_option linter.unusedSimpArgs false

/-! ### api_Dep_81: function 81 -/
theorem flat104 : Go.Proofs.Ythcikldhlohjbaa.Gen.Flat k104 := fun W base ok x cs h => by rw [k104_open h]; exact k104_mkM W base ok x
def api_Dep_81.f (l0 : List (S104)) : Option ((List (S104))) := if l0.length < 8796093022208 then some l0 else none
theorem api_Dep_81.calls (A0 : Option Addr) (c0 : Nat) (l0 : List (S104)) (r : List (S104)) (w : World) (hr0 : Kd.C k104 w A0 l0.length l0) (hc0 : l0.length ≤ c0) (h : api_Dep_81.f l0 = some r) : Calls Try.prog 81 #[.slice A0 l0.length c0] w fun e w' => ∃ v0_ : Value, e = .returned (v0_) ∧ Kd.R k104 104 w' w.heap.size (fun _ => True) v0_ r ∧ Below w.heap.size w w' := by
  unfold api_Dep_81.f at h
  split at h
  · obtain rfl := Option.some.inj h
    exact Go.Proofs.Ythcikldhlohjbaa.Gen.clone104 k104 rfl flat104 l0 A0 c0 w hr0 hc0 (by omega)
  · cases h

end Go.Proofs.Ythcikldhlohjbaa.PS
