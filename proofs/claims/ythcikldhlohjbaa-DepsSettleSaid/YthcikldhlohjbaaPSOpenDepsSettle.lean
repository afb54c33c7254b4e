-- printed by mkrow.py
import Derived.Test.YthcikldhlohjbaaOpen
import Derived.Test.YthcikldhlohjbaaPSx0
set_option linter.unusedVariables false
namespace Go.Proofs.Ythcikldhlohjbaa.PS.DepsSettleOpen
open Go.RowKit Go.Proofs.YthcikldhlohjbaaW.PrintWords Go.Proofs.Ythcikldhlohjbaa.Open Go.Proofs.Ythcikldhlohjbaa.PS
def g104 (x : S104) : Prop := (Lit.int .u8 x.f0).wf = true ∧ (Lit.int .i64 x.f1).wf = true
instance : Inhabited S104 := ⟨z104⟩
theorem o104 : Opens Try.prog g104 k104 104 := o_iso (fun x : S104 => (x.f0, x.f1)) (fun a => ⟨a.1, a.2⟩) (fun _ => rfl) (o_struct Try.underlying104 (by kernel_rfl) _ rfl (o_field rfl (o_int Try.underlying102 (by kernel_rfl)) (o_last rfl (o_int Try.underlying3 (by kernel_rfl)))))
def g38 (x : S38) : Prop := x.f0.size ≤ 140737488351232 ∧ x.f1.size ≤ 140737488351232 ∧ x.f2.size ≤ 140737488351232 ∧ x.f3.size ≤ 140737488351232 ∧ (Lit.int .i64 x.f4).wf = true ∧ (Lit.int .i64 x.f5).wf = true ∧ (Lit.int .i64 x.f6).wf = true ∧ (x.f7.length * 16 ≤ 140737488351232 ∧ ∀ yxf7 ∈ x.f7, g104 yxf7)
instance : Inhabited S38 := ⟨z38⟩
theorem o38 : Opens Try.prog g38 k38 38 := o_iso (fun x : S38 => (x.f0, x.f1, x.f2, x.f3, x.f4, x.f5, x.f6, x.f7)) (fun a => ⟨a.1, a.2.1, a.2.2.1, a.2.2.2.1, a.2.2.2.2.1, a.2.2.2.2.2.1, a.2.2.2.2.2.2.1, a.2.2.2.2.2.2.2⟩) (fun _ => rfl) (o_struct Try.underlying38 (by kernel_rfl) _ rfl (o_field rfl (o_string Try.underlying9 (by kernel_rfl)) (o_field rfl (o_string Try.underlying9 (by kernel_rfl)) (o_field rfl (o_string Try.underlying9 (by kernel_rfl)) (o_field rfl (o_string Try.underlying9 (by kernel_rfl)) (o_field rfl (o_int Try.underlying3 (by kernel_rfl)) (o_field rfl (o_int Try.underlying3 (by kernel_rfl)) (o_field rfl (o_int Try.underlying2 (by kernel_rfl)) (o_last rfl (o_slice Try.underlying22 (by kernel_rfl) 16 (by kernel_rfl) o104))))))))))
def g43 (x : S43) : Prop := (Lit.int .i64 x.f0).wf = true ∧ (Lit.int .i64 x.f1).wf = true ∧ (Lit.int .i64 x.f2).wf = true ∧ g38 x.f3 ∧ (Lit.int .u8 x.f4).wf = true ∧ (Lit.int .i64 x.f5).wf = true ∧ (Lit.int .i64 x.f6).wf = true ∧ (Lit.int .i64 x.f7).wf = true ∧ (Lit.int .u32 x.f8).wf = true ∧ (Lit.int .i64 x.f9).wf = true
instance : Inhabited S43 := ⟨z43⟩
theorem o43 : Opens Try.prog g43 k43 43 := o_iso (fun x : S43 => (x.f0, x.f1, x.f2, x.f3, x.f4, x.f5, x.f6, x.f7, x.f8, x.f9)) (fun a => ⟨a.1, a.2.1, a.2.2.1, a.2.2.2.1, a.2.2.2.2.1, a.2.2.2.2.2.1, a.2.2.2.2.2.2.1, a.2.2.2.2.2.2.2.1, a.2.2.2.2.2.2.2.2.1, a.2.2.2.2.2.2.2.2.2⟩) (fun _ => rfl) (o_struct Try.underlying43 (by kernel_rfl) _ rfl (o_field rfl (o_int Try.underlying3 (by kernel_rfl)) (o_field rfl (o_int Try.underlying3 (by kernel_rfl)) (o_field rfl (o_int Try.underlying3 (by kernel_rfl)) (o_field rfl o38 (o_field rfl (o_int Try.underlying39 (by kernel_rfl)) (o_field rfl (o_int Try.underlying2 (by kernel_rfl)) (o_field rfl (o_int Try.underlying2 (by kernel_rfl)) (o_field rfl (o_int Try.underlying2 (by kernel_rfl)) (o_field rfl (o_int Try.underlying41 (by kernel_rfl)) (o_last rfl (o_int Try.underlying3 (by kernel_rfl)))))))))))))
end Go.Proofs.Ythcikldhlohjbaa.PS.DepsSettleOpen
