-- printed by mkrow.py
import Derived.Test.YthcikldhlohjbaaOpen
import Derived.Test.YthcikldhlohjbaaPTx0
set_option linter.unusedVariables false
namespace Go.Proofs.Ythcikldhlohjbaa.PT.TreeTellsOpen
open Go.RowKit Go.Proofs.YthcikldhlohjbaaW.PrintWords Go.Proofs.Ythcikldhlohjbaa.Open Go.Proofs.Ythcikldhlohjbaa.PT
def g94 (x : S94) : Prop := x.f0.size ≤ 140737488351232 ∧ x.f1.size ≤ 140737488351232 ∧ (Lit.int .i64 x.f2).wf = true
instance : Inhabited S94 := ⟨z94⟩
theorem o94 : Opens Try.prog g94 k94 94 := o_iso (fun x : S94 => (x.f0, x.f1, x.f2)) (fun a => ⟨a.1, a.2.1, a.2.2⟩) (fun _ => rfl) (o_struct Try.underlying94 (by kernel_rfl) _ rfl (o_field rfl (o_string Try.underlying9 (by kernel_rfl)) (o_field rfl (o_string Try.underlying9 (by kernel_rfl)) (o_last rfl (o_int Try.underlying3 (by kernel_rfl))))))
end Go.Proofs.Ythcikldhlohjbaa.PT.TreeTellsOpen
