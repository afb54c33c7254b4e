-- printed by mkrow.py
import Derived.Test.YtajlmjmhkhdmdaaOpen
import Derived.Test.YtajlmjmhkhdmdaaPFx0
set_option linter.unusedVariables false
namespace Go.Proofs.Ytajlmjmhkhdmdaa.PF.FrameTellsOpen
open Go.RowKit Go.Proofs.YtajlmjmhkhdmdaaW.PrintWords Go.Proofs.Ytajlmjmhkhdmdaa.Open Go.Proofs.Ytajlmjmhkhdmdaa.PF
def g27 (x : S27) : Prop := (Lit.int .u8 x.f0).wf = true ∧ (x.f1.length * 1 ≤ 140737488351232 ∧ ∀ yxf1 ∈ x.f1, (Lit.int .u8 yxf1).wf = true)
instance : Inhabited S27 := ⟨z27⟩
theorem o27 : Opens Try.prog g27 k27 27 := o_iso (fun x : S27 => (x.f0, x.f1)) (fun a => ⟨a.1, a.2⟩) (fun _ => rfl) (o_struct Try.underlying27 (by kernel_rfl) _ rfl (o_field rfl (o_int Try.underlying5 (by kernel_rfl)) (o_last rfl (o_slice Try.underlying22 (by kernel_rfl) 1 (by kernel_rfl) (o_int Try.underlying5 (by kernel_rfl))))))
end Go.Proofs.Ytajlmjmhkhdmdaa.PF.FrameTellsOpen
