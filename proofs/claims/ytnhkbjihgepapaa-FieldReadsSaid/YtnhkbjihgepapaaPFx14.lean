-- printed by wprint.py (this session's program over the kit's print.py)
import Derived.Test.YtnhkbjihgepapaaPFx0
import Derived.Test.YtnhkbjihgepapaaFdGet
namespace Go.Proofs.Ytnhkbjihgepapaa.PF
open Go.RowKit Go.Proofs.YtnhkbjihgepapaaW.PrintWords Go.Proofs.YtnhkbjihgepapaaW.PrintLast Go.Proofs.YtnhkbjihgepapaaW.PrintMore
attribute [local go_sem] max2_int min2_int max_two min_two max_three min_three max_four min_four   -- for this text's walks alone
set_option linter.unusedVariables false
set_option linter.unusedSimpArgs false

/-! ### field_Get: function 16 -/
def field_Get.f (l0 : List (S30)) (a1 : Int) : Option (Int × Int × Int × ByteArray × List Int × List ByteArray × Bool) := if Fd.okGet l0 = true then some (Fd.getT l0 a1) else none
theorem field_Get.calls (A0 : Option Addr) (c0 : Nat) (l0 : List (S30)) (a1 : Int) (r1 r2 r3 : Int) (r4 : ByteArray) (r5 : List Int) (r6 : List ByteArray) (r7 : Bool) (w : World) (hr0 : Kd.C k30 w A0 l0.length l0) (hc0 : l0.length ≤ c0) (h : field_Get.f l0 a1 = some (r1, r2, r3, r4, r5, r6, r7)) :
    Calls Try.prog 16 #[.slice A0 l0.length c0, .int .u8 a1] w fun e w' => ∃ v4_ v5_ : Value, e = .returned (.tuple #[.agg #[.int .u8 r1, .int .u8 r2, .int .i64 r3, .string r4, v4_, v5_], .bool r7]) ∧ Kd.R (Kd.int .i64) 2 w' w.heap.size (fun _ => True) v4_ r5 ∧ Kd.R Kd.string 9 w' w.heap.size (fun _ => True) v5_ r6 ∧ Below w.heap.size w w' := by
  unfold field_Get.f at h
  split at h
  · rename_i ho
    have hh := Option.some.inj h
    have := Fd.get_calls l0 A0 c0 a1 w hr0 hc0 ho
    rw [hh] at this
    exact this
  · cases h

end Go.Proofs.Ytnhkbjihgepapaa.PF
