-- printed by wprint.py (this session's program over the kit's print.py)
import Derived.Test.YtnipddabgedoaaaPLx0
namespace Go.Proofs.Ytnipddabgedoaaa.PL
open Go.RowKit Go.Proofs.YtnipddabgedoaaaW.PrintWords Go.Proofs.YtnipddabgedoaaaW.PrintLast Go.Proofs.YtnipddabgedoaaaW.PrintMore
attribute [local go_sem] max2_int min2_int max_two min_two max_three min_three max_four min_four   -- for this text's walks alone
set_option linter.unusedVariables false
set_option linter.unusedSimpArgs false

/-! ### musterlaw01_OctetsTells: function 5 -/
def musterlaw01_OctetsTells.f : Option Bool := some true
/-- Proved by a walk of its own: nothing is left over. -/
def musterlaw01_OctetsTells.Pure : Prop := True
theorem musterlaw01_OctetsTells.walk (_ : musterlaw01_OctetsTells.Pure) (a0 : Option Addr) (len0 cap0 : Nat) (z0 : List Int) (a1 : ByteArray) (a2 : Int) (a3 : Int) (w : World) (w0 : (a0 = none ∧ len0 = 0 ∧ cap0 = 0 ∧ z0 = []) ∨ ∃ x, a0 = some x ∧ len0 ≤ cap0 ∧ cap0 ≤ maxLen ∧ z0.length = cap0 ∧ (∀ i, i < z0.length → w.cell? (x.add i) = some (.int .u8 (z0.getD i 0))) ∧ ∀ n ∈ z0, (Lit.int .u8 n).wf = true) (y0 : len0 * 1 ≤ 140737488351232) (w1 : a1.size ≤ 140737488351232) (w2 : (Lit.int .i64 a2).wf = true) (w3 : (Lit.int .u64 a3).wf = true) (u0 : len0 ≤ 1048576) (u1 : a1.size ≤ 1048576) :
    Calls Try.prog 5 #[.slice a0 len0 cap0, .string a1, .int .i64 a2, .int .u64 a3] w fun e w' => e = .returned (.bool true) ∧ Below w.heap.size w w' := by
  obtain ⟨l0, rfl, hr0, hm0, hw0, hc0⟩ := ReadsInt.ofRowC w0
  have hC0 := Kd.C_of_reads (d := (0 : Int)) (h1 := fun _ => rfl) hr0
  have e := Low.wf_u64 w3; have f := Low.wf_i64 w2; exact Oct.tells_law a0 cap0 l0 a1 a2 a3 w hC0 hc0 (by omega) (fun x hx => Low.wf_u8 (hw0 x hx)) f e.1 (by omega)

end Go.Proofs.Ytnipddabgedoaaa.PL
