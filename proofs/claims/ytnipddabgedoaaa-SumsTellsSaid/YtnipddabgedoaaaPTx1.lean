-- printed by wprint.py (this session's program over the kit's print.py)
import Derived.Test.YtnipddabgedoaaaPTx0
namespace Go.Proofs.Ytnipddabgedoaaa.PT
open Go.RowKit Go.Proofs.YtnipddabgedoaaaW.PrintWords Go.Proofs.YtnipddabgedoaaaW.PrintLast Go.Proofs.YtnipddabgedoaaaW.PrintMore
attribute [local go_sem] max2_int min2_int max_two min_two max_three min_three max_four min_four   -- for this text's walks alone
set_option linter.unusedVariables false
set_option linter.unusedSimpArgs false

/-! ### musterlaw02_SumsTells: function 8 -/
def musterlaw02_SumsTells.f : Option Bool := some true
/-- Proved by a walk of its own: nothing is left over. -/
def musterlaw02_SumsTells.Pure : Prop := True
theorem musterlaw02_SumsTells.walk (_ : musterlaw02_SumsTells.Pure) (a0 : Int) (a1 : Option Addr) (len1 cap1 : Nat) (z1 : List Int) (w : World) (w0 : (Lit.int .u32 a0).wf = true) (w1 : (a1 = none ∧ len1 = 0 ∧ cap1 = 0 ∧ z1 = []) ∨ ∃ x, a1 = some x ∧ len1 ≤ cap1 ∧ cap1 ≤ maxLen ∧ z1.length = cap1 ∧ (∀ i, i < z1.length → w.cell? (x.add i) = some (.int .u8 (z1.getD i 0))) ∧ ∀ n ∈ z1, (Lit.int .u8 n).wf = true) (y1 : len1 * 1 ≤ 140737488351232) :
    Calls Try.prog 8 #[.int .u32 a0, .slice a1 len1 cap1] w fun e w' => e = .returned (.bool true) ∧ Below w.heap.size w w' := by
  obtain ⟨l1, rfl, hr1, hm1, hw1, hc1⟩ := ReadsInt.ofRowC w1
  have hC1 := Kd.C_of_reads (d := (0 : Int)) (h1 := fun _ => rfl) hr1
  have e := Low.wf_u32 w0; rw [show (Value.int .u32 a0) = Sums.w32 (BitVec.ofInt 32 a0) from congrArg (Value.int .u32) (by rw [BitVec.toNat_ofInt]; omega)]; exact Sums.tells_law _ a1 cap1 l1 w hC1 (by omega) (fun x hx => Low.wf_u8 (hw1 x hx))

end Go.Proofs.Ytnipddabgedoaaa.PT
