-- printed by mkrow.py
import Derived.Test.YthcikldhlohjbaaOpen
import Derived.Test.YthcikldhlohjbaaPNx0
set_option linter.unusedVariables false
namespace Go.Proofs.Ythcikldhlohjbaa.PN.NodesSetsOpen
open Go.RowKit Go.Proofs.YthcikldhlohjbaaW.PrintWords Go.Proofs.Ythcikldhlohjbaa.Open Go.Proofs.Ythcikldhlohjbaa.PN
def g55 (x : S55) : Prop := (Lit.int .i64 x.f0).wf = true ∧ True ∧ (Lit.int .i64 x.f2).wf = true
instance : Inhabited S55 := ⟨z55⟩
theorem o55 : Opens Try.prog g55 k55 55 := o_iso (fun x : S55 => (x.f0, x.f1, x.f2)) (fun a => ⟨a.1, a.2.1, a.2.2⟩) (fun _ => rfl) (o_struct Try.underlying55 (by kernel_rfl) _ rfl (o_field rfl (o_int Try.underlying3 (by kernel_rfl)) (o_field rfl (o_bool Try.underlying4 (by kernel_rfl)) (o_last rfl (o_int Try.underlying3 (by kernel_rfl))))))
def g65 (x : S65) : Prop := (Lit.int .u32 x.f0).wf = true ∧ (Lit.int .i64 x.f1).wf = true
instance : Inhabited S65 := ⟨z65⟩
theorem o65 : Opens Try.prog g65 k65 65 := o_iso (fun x : S65 => (x.f0, x.f1)) (fun a => ⟨a.1, a.2⟩) (fun _ => rfl) (o_struct Try.underlying65 (by kernel_rfl) _ rfl (o_field rfl (o_int Try.underlying41 (by kernel_rfl)) (o_last rfl (o_int Try.underlying3 (by kernel_rfl)))))
end Go.Proofs.Ythcikldhlohjbaa.PN.NodesSetsOpen
