-- printed by wprint.py (this session's program over the kit's print.py)
import Derived.Test.YtnhkbjihgepapaaPFx0
import Derived.Test.YtnhkbjihgepapaaFdRefR
namespace Go.Proofs.Ytnhkbjihgepapaa.PF
open Go.RowKit Go.Proofs.YtnhkbjihgepapaaW.PrintWords Go.Proofs.YtnhkbjihgepapaaW.PrintLast Go.Proofs.YtnhkbjihgepapaaW.PrintMore
attribute [local go_sem] max2_int min2_int max_two min_two max_three min_three max_four min_four   -- for this text's walks alone
set_option linter.unusedVariables false
set_option linter.unusedSimpArgs false

/-! ### musterref04_right: function 42 -/
def musterref04_right.f (a0_0 : Int) (a0_1 : Int) (a0_2 : Int) (a0_3 : ByteArray) (l0_4 : List Int) (l0_5 : List ByteArray) : Option (Bool) := if l0_4.length < 9000000000000000000 ∧ l0_5.length < 9000000000000000000 then some (Fd.rightF a0_1 a0_2 a0_3 l0_4 l0_5) else none
theorem musterref04_right.calls (a0_0 : Int) (a0_1 : Int) (a0_2 : Int) (a0_3 : ByteArray) (A0_4 : Option Addr) (c0_4 : Nat) (l0_4 : List Int) (A0_5 : Option Addr) (c0_5 : Nat) (l0_5 : List ByteArray) (r : Bool) (w : World) (hr0_4 : Kd.C (Kd.int .i64) w A0_4 l0_4.length l0_4) (hc0_4 : l0_4.length ≤ c0_4) (hr0_5 : Kd.C Kd.string w A0_5 l0_5.length l0_5) (hc0_5 : l0_5.length ≤ c0_5) (h : musterref04_right.f a0_0 a0_1 a0_2 a0_3 l0_4 l0_5 = some r) :
    Calls Try.prog 42 #[.agg #[.int .u8 a0_0, .int .u8 a0_1, .int .i64 a0_2, .string a0_3, .slice A0_4 l0_4.length c0_4, .slice A0_5 l0_5.length c0_5]] w fun e w' => e = .returned (.bool r) ∧ Below w.heap.size w w' := by
  unfold musterref04_right.f at h
  split at h
  · rename_i ho
    obtain rfl := Option.some.inj h
    exact Fd.refright_calls a0_0 a0_1 a0_2 a0_3 A0_4 c0_4 l0_4 A0_5 c0_5 l0_5 w hr0_4 hc0_4 hr0_5 hc0_5 ho
  · cases h

end Go.Proofs.Ytnhkbjihgepapaa.PF
