-- printed by wprint.py (this session's program over the kit's print.py)
import Derived.Test.YtfggcdpipolahaaPFFileNonex0
namespace Go.Proofs.Ytfggcdpipolahaa.PFFileNone
open Go.RowKit Go.Proofs.YtfggcdpipolahaaW.PrintWords Go.Proofs.YtfggcdpipolahaaW.PrintLast Go.Proofs.YtfggcdpipolahaaW.PrintMore
attribute [local go_sem] max2_int min2_int max_two min_two max_three min_three max_four min_four   -- for this text's walks alone
set_option linter.unusedVariables false
set_option linter.unusedSimpArgs false

/-! ### musterlaw06_FileNone: function 8 -/
def musterlaw06_FileNone.f : Option Bool := some true
/-- Proved by a walk of its own: nothing is left over. -/
def musterlaw06_FileNone.Pure : Prop := True
theorem musterlaw06_FileNone.walk (_ : musterlaw06_FileNone.Pure) (a0 : Int) (a1 : Int) (a2 : Option Addr) (len2 cap2 : Nat) (z2 : List Int) (w : World) (w0 : (Lit.int .i64 a0).wf = true) (w1 : (Lit.int .i64 a1).wf = true) (w2 : (a2 = none ∧ len2 = 0 ∧ cap2 = 0 ∧ z2 = []) ∨ ∃ x, a2 = some x ∧ len2 ≤ cap2 ∧ cap2 ≤ maxLen ∧ z2.length = cap2 ∧ (∀ i, i < z2.length → w.cell? (x.add i) = some (.int .u8 (z2.getD i 0))) ∧ ∀ n ∈ z2, (Lit.int .u8 n).wf = true) (y2 : len2 * 1 ≤ 140737488351232) :
    Calls Try.prog 8 #[.int .i64 a0, .int .i64 a1, .slice a2 len2 cap2] w fun e w' => e = .returned (.bool true) ∧ Below w.heap.size w w' := by
  obtain ⟨l2, rfl, hr2, hm2, hw2, hc2⟩ := ReadsInt.ofRowC w2
  have hC2 := Kd.C_of_reads (d := (0 : Int)) (h1 := fun _ => rfl) hr2
  exact PF.none_law _ _ _ _ _ w

end Go.Proofs.Ytfggcdpipolahaa.PFFileNone
