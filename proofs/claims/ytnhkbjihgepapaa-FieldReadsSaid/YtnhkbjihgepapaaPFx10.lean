-- printed by wprint.py (this session's program over the kit's print.py)
import Derived.Test.YtnhkbjihgepapaaPFx0
import Derived.Test.YtnhkbjihgepapaaFdOct
namespace Go.Proofs.Ytnhkbjihgepapaa.PF
open Go.RowKit Go.Proofs.YtnhkbjihgepapaaW.PrintWords Go.Proofs.YtnhkbjihgepapaaW.PrintLast Go.Proofs.YtnhkbjihgepapaaW.PrintMore
attribute [local go_sem] max2_int min2_int max_two min_two max_three min_three max_four min_four   -- for this text's walks alone
set_option linter.unusedVariables false
set_option linter.unusedSimpArgs false

/-! ### octets_Add16: function 48 -/
def octets_Add16.f (l0 : List Int) (a1 : Int) : Option (List Int) := if Fd.ok16 l0 a1 = true then some (l0 ++ Oct.be a1 2) else none
theorem octets_Add16.calls (A0 : Option Addr) (c0 : Nat) (l0 : List Int) (a1 : Int) (r : List Int) (w : World) (hr0 : Kd.C (Kd.int .u8) w A0 l0.length l0) (hc0 : l0.length ≤ c0) (h : octets_Add16.f l0 a1 = some r) :
    Calls Try.prog 48 #[.slice A0 l0.length c0, .int .u16 a1] w fun e w' => ∃ v0_ : Value, e = .returned (v0_) ∧ Kd.R (Kd.int .u8) 5 w' w.heap.size (fun _ => True) v0_ r ∧ Below w.heap.size w w' := by
  unfold octets_Add16.f at h
  split at h
  · rename_i ho
    obtain rfl := Option.some.inj h
    exact Fd.add16_ok A0 c0 l0 a1 w hr0 ho
  · cases h

end Go.Proofs.Ytnhkbjihgepapaa.PF
