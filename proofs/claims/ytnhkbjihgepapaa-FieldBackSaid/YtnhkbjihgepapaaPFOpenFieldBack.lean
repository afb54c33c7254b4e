-- printed by mkrow.py
import Derived.Test.YtnhkbjihgepapaaOpen
import Derived.Test.YtnhkbjihgepapaaPFx0
set_option linter.unusedVariables false
namespace Go.Proofs.Ytnhkbjihgepapaa.PF.FieldBackOpen
open Go.RowKit Go.Proofs.YtnhkbjihgepapaaW.PrintWords Go.Proofs.Ytnhkbjihgepapaa.Open Go.Proofs.Ytnhkbjihgepapaa.PF
def g30 (x : S30) : Prop := (Lit.int .u8 x.f0).wf = true ∧ (Lit.int .u8 x.f1).wf = true ∧ (Lit.int .i64 x.f2).wf = true ∧ x.f3.size ≤ 140737488351232 ∧ (x.f4.length * 8 ≤ 140737488351232 ∧ ∀ yxf4 ∈ x.f4, (Lit.int .i64 yxf4).wf = true) ∧ (x.f5.length * 16 ≤ 140737488351232 ∧ ∀ yxf5 ∈ x.f5, yxf5.size ≤ 140737488351232)
instance : Inhabited S30 := ⟨z30⟩
theorem o30 : Opens Try.prog g30 k30 30 := o_iso (fun x : S30 => (x.f0, x.f1, x.f2, x.f3, x.f4, x.f5)) (fun a => ⟨a.1, a.2.1, a.2.2.1, a.2.2.2.1, a.2.2.2.2.1, a.2.2.2.2.2⟩) (fun _ => rfl) (o_struct Try.underlying30 (by kernel_rfl) _ rfl (o_field rfl (o_int Try.underlying5 (by kernel_rfl)) (o_field rfl (o_int Try.underlying26 (by kernel_rfl)) (o_field rfl (o_int Try.underlying2 (by kernel_rfl)) (o_field rfl (o_string Try.underlying9 (by kernel_rfl)) (o_field rfl (o_slice Try.underlying27 (by kernel_rfl) 8 (by kernel_rfl) (o_int Try.underlying2 (by kernel_rfl))) (o_last rfl (o_slice Try.underlying28 (by kernel_rfl) 16 (by kernel_rfl) (o_string Try.underlying9 (by kernel_rfl))))))))))
end Go.Proofs.Ytnhkbjihgepapaa.PF.FieldBackOpen
