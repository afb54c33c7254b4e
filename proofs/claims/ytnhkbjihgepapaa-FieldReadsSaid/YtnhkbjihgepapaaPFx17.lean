-- printed by wprint.py (this session's program over the kit's print.py)
import Derived.Test.YtnhkbjihgepapaaPFx0
import Derived.Test.YtnhkbjihgepapaaFdOct
namespace Go.Proofs.Ytnhkbjihgepapaa.PF
open Go.RowKit Go.Proofs.YtnhkbjihgepapaaW.PrintWords Go.Proofs.YtnhkbjihgepapaaW.PrintLast Go.Proofs.YtnhkbjihgepapaaW.PrintMore
attribute [local go_sem] max2_int min2_int max_two min_two max_three min_three max_four min_four   -- for this text's walks alone
set_option linter.unusedVariables false
set_option linter.unusedSimpArgs false

/-! ### musterref01_AddText: function 37 -/
def musterref01_AddText.f (l0 : List Int) (a1 : ByteArray) : Option (List Int × Int) := if Fd.okText l0 a1 = true then some (Fd.addTextE l0 a1) else none
theorem musterref01_AddText.calls (A0 : Option Addr) (c0 : Nat) (l0 : List Int) (a1 : ByteArray) (r1 : List Int) (r2 : Int) (w : World) (hr0 : Kd.C (Kd.int .u8) w A0 l0.length l0) (hc0 : l0.length ≤ c0) (h : musterref01_AddText.f l0 a1 = some (r1, r2)) :
    Calls Try.prog 37 #[.slice A0 l0.length c0, .string a1] w fun e w' => ∃ v0_ : Value, e = .returned (.tuple #[v0_, .int .i64 r2]) ∧ Kd.R (Kd.int .u8) 5 w' w.heap.size (fun _ => True) v0_ r1 ∧ Below w.heap.size w w' := by
  unfold musterref01_AddText.f at h
  split at h
  · rename_i ho
    have hh := Option.some.inj h
    have := Fd.refAddText_ok A0 c0 l0 a1 w hr0 ho
    rw [hh] at this
    exact this
  · cases h

end Go.Proofs.Ytnhkbjihgepapaa.PF
