-- printed by wprint.py (this session's program over the kit's print.py)
import Derived.Test.YthcikldhlohjbaaPJx0
import Derived.Test.YthcikldhlohjbaaJobOnce
namespace Go.Proofs.Ythcikldhlohjbaa.PJ
open Go.RowKit Go.Proofs.YthcikldhlohjbaaW.PrintWords Go.Proofs.YthcikldhlohjbaaW.PrintLast Go.Proofs.YthcikldhlohjbaaW.PrintMore
attribute [local go_sem] max2_int min2_int max_two min_two max_three min_three max_four min_four   -- for this text's walks alone
set_option linter.unusedVariables false
set_option linter.unusedSimpArgs false

/-! ### musterlaw18_JobOnce: function 9 -/
def musterlaw18_JobOnce.f (a0 : Int) (a1_0 : ByteArray) (a1_1 : ByteArray) (a1_2 : ByteArray) (a1_3 : ByteArray) (a1_4 : Int) (a1_5 : Int) (a1_6 : Int) (l1_7 : List (S104)) (l2 : List (S72)) : Option (Bool) := if l1_7.length < 8796093022208 ∧ l2.all (fun t => decide (0 ≤ t.f0 ∧ t.f0 < 4294967296)) = true then some true else none
theorem musterlaw18_JobOnce.calls (a0 : Int) (a1_0 : ByteArray) (a1_1 : ByteArray) (a1_2 : ByteArray) (a1_3 : ByteArray) (a1_4 : Int) (a1_5 : Int) (a1_6 : Int) (A1_7 : Option Addr) (c1_7 : Nat) (l1_7 : List (S104)) (A2 : Option Addr) (c2 : Nat) (l2 : List (S72)) (r : Bool) (w : World) (hr1_7 : Kd.C k104 w A1_7 l1_7.length l1_7) (hc1_7 : l1_7.length ≤ c1_7) (hr2 : Kd.C k72 w A2 l2.length l2) (hc2 : l2.length ≤ c2) (h : musterlaw18_JobOnce.f a0 a1_0 a1_1 a1_2 a1_3 a1_4 a1_5 a1_6 l1_7 l2 = some r) :
    Calls Try.prog 9 #[.int .i64 a0, .agg #[.string a1_0, .string a1_1, .string a1_2, .string a1_3, .int .i64 a1_4, .int .i64 a1_5, .int .i64 a1_6, .slice A1_7 l1_7.length c1_7], .slice A2 l2.length c2] w fun e w' => e = .returned (.bool r) ∧ Below w.heap.size w w' := by
  unfold musterlaw18_JobOnce.f at h
  split at h
  · rename_i hu
    obtain rfl := Option.some.inj h
    exact jobOnce_calls a0 ⟨a1_0, a1_1, a1_2, a1_3, a1_4, a1_5, a1_6, l1_7⟩ A1_7 c1_7 l2 A2 c2 w hu.1 hr1_7 hc1_7 hr2 hc2 (fun t ht => show 0 ≤ t.f0 ∧ t.f0 < 4294967296 from of_decide_eq_true (List.all_eq_true.1 hu.2 t ht))
  · cases h

end Go.Proofs.Ythcikldhlohjbaa.PJ
