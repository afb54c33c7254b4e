/- Through any script on two disks every answer, and what is durable at the end, is as the document defines. (The row.) -/
import Derived.Test.YtfggcdpipolahaaRows
import Derived.Test.YtfggcdpipolahaaFiPlaysH
import Derived.WalkKit
import Derived.ProofKit
import Derived.OpenShut
import Derived.ShutString
import Derived.ChangeOld
import Derived.Below
import Derived.SizedLaws
import Derived.Test.YtfggcdpipolahaaOpen
import Derived.Test.YtfggcdpipolahaaPFx0

namespace Go.Proofs.Ytfggcdpipolahaa.PF.FilePlaysOpen
open Go.RowKit Go.Proofs.YtfggcdpipolahaaW.PrintWords Go.Proofs.Ytfggcdpipolahaa.Open Go.Proofs.Ytfggcdpipolahaa.PF
def g57 (x : S57) : Prop := (Lit.int .i64 x.f0).wf = true ∧ (Lit.int .i64 x.f1).wf = true ∧ (Lit.int .i64 x.f2).wf = true ∧ (x.f3.length * 1 ≤ 140737488351232 ∧ ∀ yxf3 ∈ x.f3, (Lit.int .u8 yxf3).wf = true) ∧ (Lit.int .i64 x.f4).wf = true ∧ (Lit.int .i64 x.f5).wf = true ∧ (Lit.int .i64 x.f6).wf = true
instance : Inhabited S57 := ⟨z57⟩
theorem o57 : Opens Try.prog g57 k57 57 := o_iso (fun x : S57 => (x.f0, x.f1, x.f2, x.f3, x.f4, x.f5, x.f6)) (fun a => ⟨a.1, a.2.1, a.2.2.1, a.2.2.2.1, a.2.2.2.2.1, a.2.2.2.2.2.1, a.2.2.2.2.2.2⟩) (fun _ => rfl) (o_struct Try.underlying57 (by kernel_rfl) _ rfl (o_field rfl (o_int Try.underlying3 (by kernel_rfl)) (o_field rfl (o_int Try.underlying3 (by kernel_rfl)) (o_field rfl (o_int Try.underlying3 (by kernel_rfl)) (o_field rfl (o_slice Try.underlying24 (by kernel_rfl) 1 (by kernel_rfl) (o_int Try.underlying5 (by kernel_rfl))) (o_field rfl (o_int Try.underlying3 (by kernel_rfl)) (o_field rfl (o_int Try.underlying3 (by kernel_rfl)) (o_last rfl (o_int Try.underlying3 (by kernel_rfl))))))))))
end Go.Proofs.Ytfggcdpipolahaa.PF.FilePlaysOpen

namespace Go.Proofs.Ytfggcdpipolahaa.filePlays
open Go.ChangeShapes Go.WideShapes Go.ChangeAt Go.RowKit Go.Proofs.Ytfggcdpipolahaa.Open Go.Proofs.Ytfggcdpipolahaa.PF.FilePlaysOpen

open Go.ChangeMaps (open_string shut_string)
set_option linter.unusedVariables false
theorem own : ownKnob Try.prog.godebug = none := by kernel_rfl
theorem laidOut : laidOutB Try.prog = true := by kernel_rfl
set_option maxRecDepth 100000 in
theorem lifted (os : Os) (started : os.Started) (H : Type) (enc : TypeId × Value → H) :
    ReturnsInHanded {} Try.checked os 7 .any (Rows.filePlaysSpec.pre6 enc Try.prog Try.f7 Rows.filePlaysRow.domain false) (Rows.filePlaysSpec.post enc Try.prog Try.f7 false true false false) := by
  refine returnsInHanded_of_change_sized (C := Try.checked) own started (by kernel_rfl) Try.func7
    (ChangeSpec.witness6 (enc := enc) (C := Try.checked) false ⟨#[], #[.slice none 0 0], []⟩ 8 (by kernel_rfl) (by kernel_rfl) (by kernel_rfl) (by kernel_rfl)) ?_
  intro W base args ds gs before hval0 hW hcnd hsz0 _
  have hsz : (DataW.weightsEach Try.prog (Try.f7.params.toList ++ Rows.filePlaysSpec.plain.varTypes Try.prog) (ds ++ gs)).all (· ≤ reachBytes) = true := hsz0
  have hval : ∀ (j : Nat) t v, Try.f7.params[j]? = some t → args[j]? = some v → Value.okWide Try.prog W .any base t v := hval0
  have hW' := hW
  obtain ⟨p, q, hA0, hV, rfl, hfz, hnd⟩ := hW
  have hA : DataW.TrodAll enc Try.prog W 0 (fun _ => true) true Try.f7.params.toList args.toList ds p := hA0
  rw [Try.params7] at hA hval hsz
  obtain ⟨v0, vs0, d0, ds0, p0, q0, hargs, rfl, rfl, h0, r0⟩ := trodAll_cons hA
  obtain ⟨rfl, rfl, rfl⟩ := trodAll_nil r0
  obtain rfl : args = #[v0] := by cases args; simp_all
  obtain ⟨rfl, rfl⟩ := trodVars_none hV
  have k0 := h0
  have lt0 : ∀ x ∈ p0, x.block < W.heap.size := by obtain ⟨m, hm⟩ := k0; exact DataW.trod_lt m _ _ _ hm
  obtain ⟨x0, K0, w0⟩ := Opens.arg (o_slice Try.underlying48 (by kernel_rfl) 72 (by kernel_rfl) o57) hsz (j := 0) rfl rfl h0
  obtain ⟨a0, len0, cap0, rfl⟩ := okWide_slice Try.underlying48 (hval 0 48 v0 rfl rfl)
  obtain ⟨A0, c0, e0, hc0, hr0⟩ := K0
  simp [Value.cells] at e0
  obtain ⟨rfl, rfl, rfl⟩ := e0
  clear hA0 hval0 hsz0 hsz
  have hok : ∀ o ∈ x0, o.f4 ≤ 9223372036854775807 := fun o ho => by
    obtain ⟨_, _, _, _, h4, _, _⟩ := w0.2 o ho
    simp only [Lit.wf, Bool.and_eq_true, decide_eq_true_eq] at h4
    simpa [IntKind.max, IntKind.signed, IntKind.bits] using h4.2
  refine (PF.plays_law _ _ x0 W hr0 hc0 hok).mono fun e W' ⟨he, bel0⟩ => ?_
  have bel : Below W.heap.size W W' := bel0
  subst he
  exact ⟨_, rfl, _, _, _, [], _, [], hW', trodAll_mk1 (shut_bool Try.underlying4 _), (trodAll_cons_mk (Below.trod laidOut (by kernel_rfl) (of_decide_eq_true (by kernel_rfl)) k0 bel lt0) trodAll_mk0), rfl, bel.frame _, fun h => by cases h⟩
theorem over : Rows.filePlaysRow.holds Try.pinned (OpenSpec.ofChange Rows.filePlaysSpec) :=
  OpenClaim.holds_of_wide 7 Try.f7 rfl rfl rfl rfl rfl rfl rfl ⟨rfl, rfl, rfl, rfl, rfl⟩ rfl rfl rfl rfl rfl (by kernel_rfl) Try.func7 (by kernel_rfl)
    (of_decide_eq_true (by kernel_rfl)) (by unfold Func.isWrapper; first | (rw [if_pos (by decide +kernel)]; kernel_rfl) | (rw [if_neg (by decide +kernel)]; exact ⟨rfl, rfl⟩))
    (fun os started H enc _ => lifted os started H enc)
theorem proved : Rows.FilePlaysSaid := over
#print axioms proved
end Go.Proofs.Ytfggcdpipolahaa.filePlays
namespace Go.Proofs.Ytfggcdpipolahaa
/-- The row, under a short name, for the claim. -/
theorem filePlays_holds : Rows.FilePlaysSaid := filePlays.proved
end Go.Proofs.Ytfggcdpipolahaa
