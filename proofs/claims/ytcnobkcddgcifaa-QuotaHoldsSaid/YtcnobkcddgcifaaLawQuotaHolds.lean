/- If jobs only start where they may, no account and no quality of service ever exceeds its limits. (The row.) -/
import Derived.Test.YtcnobkcddgcifaaRows
import Derived.Test.YtcnobkcddgcifaaQuotaH
import Derived.WalkKit
import Derived.ProofKit
import Derived.OpenShut
import Derived.ShutString
import Derived.ChangeOld
import Derived.Below
import Derived.SizedLaws
import Derived.Test.YtcnobkcddgcifaaOpen
import Derived.Test.YtcnobkcddgcifaaPTx0

namespace Go.Proofs.Ytcnobkcddgcifaa.PT.QuotaHoldsOpen
open Go.RowKit Go.Proofs.YtcnobkcddgcifaaW.PrintWords Go.Proofs.Ytcnobkcddgcifaa.Open Go.Proofs.Ytcnobkcddgcifaa.PT
def g87 (x : S87) : Prop := x.f0.size ≤ 140737488351232 ∧ (Lit.int .u32 x.f1).wf = true ∧ (Lit.int .i64 x.f2).wf = true ∧ (Lit.int .i64 x.f3).wf = true ∧ (x.f4.length * 16 ≤ 140737488351232 ∧ ∀ yxf4 ∈ x.f4, yxf4.size ≤ 140737488351232)
instance : Inhabited S87 := ⟨z87⟩
theorem o87 : Opens Try.prog g87 k87 87 := o_iso (fun x : S87 => (x.f0, x.f1, x.f2, x.f3, x.f4)) (fun a => ⟨a.1, a.2.1, a.2.2.1, a.2.2.2.1, a.2.2.2.2⟩) (fun _ => rfl) (o_struct Try.underlying87 (by kernel_rfl) _ rfl (o_field rfl (o_string Try.underlying9 (by kernel_rfl)) (o_field rfl (o_int Try.underlying51 (by kernel_rfl)) (o_field rfl (o_int Try.underlying3 (by kernel_rfl)) (o_field rfl (o_int Try.underlying2 (by kernel_rfl)) (o_last rfl (o_slice Try.underlying70 (by kernel_rfl) 16 (by kernel_rfl) (o_string Try.underlying9 (by kernel_rfl)))))))))
def g57 (x : S57) : Prop := x.f0.size ≤ 140737488351232 ∧ x.f1.size ≤ 140737488351232 ∧ (Lit.int .i64 x.f2).wf = true
instance : Inhabited S57 := ⟨z57⟩
theorem o57 : Opens Try.prog g57 k57 57 := o_iso (fun x : S57 => (x.f0, x.f1, x.f2)) (fun a => ⟨a.1, a.2.1, a.2.2⟩) (fun _ => rfl) (o_struct Try.underlying57 (by kernel_rfl) _ rfl (o_field rfl (o_string Try.underlying9 (by kernel_rfl)) (o_field rfl (o_string Try.underlying9 (by kernel_rfl)) (o_last rfl (o_int Try.underlying3 (by kernel_rfl))))))
def g59 (x : S59) : Prop := x.f0.size ≤ 140737488351232 ∧ (Lit.int .i64 x.f1).wf = true ∧ (Lit.int .i64 x.f2).wf = true ∧ (Lit.int .i64 x.f3).wf = true
instance : Inhabited S59 := ⟨z59⟩
theorem o59 : Opens Try.prog g59 k59 59 := o_iso (fun x : S59 => (x.f0, x.f1, x.f2, x.f3)) (fun a => ⟨a.1, a.2.1, a.2.2.1, a.2.2.2⟩) (fun _ => rfl) (o_struct Try.underlying59 (by kernel_rfl) _ rfl (o_field rfl (o_string Try.underlying9 (by kernel_rfl)) (o_field rfl (o_int Try.underlying3 (by kernel_rfl)) (o_field rfl (o_int Try.underlying3 (by kernel_rfl)) (o_last rfl (o_int Try.underlying3 (by kernel_rfl)))))))
def g28 (x : S28) : Prop := (x.f0.length * 8 ≤ 140737488351232 ∧ ∀ yxf0 ∈ x.f0, (Lit.int .i64 yxf0).wf = true) ∧ (x.f1.length * 64 ≤ 140737488351232 ∧ ∀ yxf1 ∈ x.f1, g87 yxf1) ∧ (x.f2.length * 40 ≤ 140737488351232 ∧ ∀ yxf2 ∈ x.f2, g57 yxf2) ∧ (x.f3.length * 40 ≤ 140737488351232 ∧ ∀ yxf3 ∈ x.f3, g59 yxf3) ∧ (Lit.int .u8 x.f4).wf = true
instance : Inhabited S28 := ⟨z28⟩
theorem o28 : Opens Try.prog g28 k28 28 := o_iso (fun x : S28 => (x.f0, x.f1, x.f2, x.f3, x.f4)) (fun a => ⟨a.1, a.2.1, a.2.2.1, a.2.2.2.1, a.2.2.2.2⟩) (fun _ => rfl) (o_struct Try.underlying28 (by kernel_rfl) _ rfl (o_field rfl (o_slice Try.underlying22 (by kernel_rfl) 8 (by kernel_rfl) (o_int Try.underlying3 (by kernel_rfl))) (o_field rfl (o_slice Try.underlying23 (by kernel_rfl) 64 (by kernel_rfl) o87) (o_field rfl (o_slice Try.underlying24 (by kernel_rfl) 40 (by kernel_rfl) o57) (o_field rfl (o_slice Try.underlying25 (by kernel_rfl) 40 (by kernel_rfl) o59) (o_last rfl (o_int Try.underlying26 (by kernel_rfl))))))))
def g112 (x : S112) : Prop := (Lit.int .u8 x.f0).wf = true ∧ (Lit.int .i64 x.f1).wf = true
instance : Inhabited S112 := ⟨z112⟩
theorem o112 : Opens Try.prog g112 k112 112 := o_iso (fun x : S112 => (x.f0, x.f1)) (fun a => ⟨a.1, a.2⟩) (fun _ => rfl) (o_struct Try.underlying112 (by kernel_rfl) _ rfl (o_field rfl (o_int Try.underlying110 (by kernel_rfl)) (o_last rfl (o_int Try.underlying3 (by kernel_rfl)))))
def g32 (x : S32) : Prop := x.f0.size ≤ 140737488351232 ∧ x.f1.size ≤ 140737488351232 ∧ x.f2.size ≤ 140737488351232 ∧ x.f3.size ≤ 140737488351232 ∧ (Lit.int .i64 x.f4).wf = true ∧ (Lit.int .i64 x.f5).wf = true ∧ (Lit.int .i64 x.f6).wf = true ∧ (x.f7.length * 16 ≤ 140737488351232 ∧ ∀ yxf7 ∈ x.f7, g112 yxf7)
instance : Inhabited S32 := ⟨z32⟩
theorem o32 : Opens Try.prog g32 k32 32 := o_iso (fun x : S32 => (x.f0, x.f1, x.f2, x.f3, x.f4, x.f5, x.f6, x.f7)) (fun a => ⟨a.1, a.2.1, a.2.2.1, a.2.2.2.1, a.2.2.2.2.1, a.2.2.2.2.2.1, a.2.2.2.2.2.2.1, a.2.2.2.2.2.2.2⟩) (fun _ => rfl) (o_struct Try.underlying32 (by kernel_rfl) _ rfl (o_field rfl (o_string Try.underlying9 (by kernel_rfl)) (o_field rfl (o_string Try.underlying9 (by kernel_rfl)) (o_field rfl (o_string Try.underlying9 (by kernel_rfl)) (o_field rfl (o_string Try.underlying9 (by kernel_rfl)) (o_field rfl (o_int Try.underlying3 (by kernel_rfl)) (o_field rfl (o_int Try.underlying3 (by kernel_rfl)) (o_field rfl (o_int Try.underlying2 (by kernel_rfl)) (o_last rfl (o_slice Try.underlying30 (by kernel_rfl) 16 (by kernel_rfl) o112))))))))))
end Go.Proofs.Ytcnobkcddgcifaa.PT.QuotaHoldsOpen

namespace Go.Proofs.Ytcnobkcddgcifaa.quotaHolds
open Go.ChangeShapes Go.WideShapes Go.ChangeAt Go.RowKit Go.Proofs.Ytcnobkcddgcifaa.Open Go.Proofs.Ytcnobkcddgcifaa.PT.QuotaHoldsOpen

open Go.ChangeMaps (open_string shut_string)
set_option linter.unusedVariables false
theorem own : ownKnob Try.prog.godebug = none := by kernel_rfl
theorem laidOut : laidOutB Try.prog = true := by kernel_rfl
set_option maxRecDepth 100000 in
theorem lifted (os : Os) (started : os.Started) (H : Type) (enc : TypeId × Value → H) :
    ReturnsInHanded {} Try.checked os 4 .any (Rows.quotaHoldsSpec.pre6 enc Try.prog Try.f4 Rows.quotaHoldsRow.domain false) (Rows.quotaHoldsSpec.post enc Try.prog Try.f4 false true false false) := by
  refine returnsInHanded_of_change_sized (C := Try.checked) own started (by kernel_rfl) Try.func4
    (ChangeSpec.witness6 (enc := enc) (C := Try.checked) false ⟨#[], #[.agg #[.slice none 0 0, .slice none 0 0, .slice none 0 0, .slice none 0 0, .int .u8 0], .slice none 0 0, .slice none 0 0], []⟩ 8 (by kernel_rfl) (by kernel_rfl) (by kernel_rfl) (by kernel_rfl)) ?_
  intro W base args ds gs before hval0 hW hcnd hsz0 _
  have hsz : (DataW.weightsEach Try.prog (Try.f4.params.toList ++ Rows.quotaHoldsSpec.plain.varTypes Try.prog) (ds ++ gs)).all (· ≤ reachBytes) = true := hsz0
  have hval : ∀ (j : Nat) t v, Try.f4.params[j]? = some t → args[j]? = some v → Value.okWide Try.prog W .any base t v := hval0
  have hW' := hW
  obtain ⟨p, q, hA0, hV, rfl, hfz, hnd⟩ := hW
  have hA : DataW.TrodAll enc Try.prog W 0 (fun _ => true) true Try.f4.params.toList args.toList ds p := hA0
  rw [Try.params4] at hA hval hsz
  obtain ⟨v0, vs0, d0, ds0, p0, q0, hargs, rfl, rfl, h0, r0⟩ := trodAll_cons hA
  obtain ⟨v1, vs1, d1, ds1, p1, q1, rfl, rfl, rfl, h1, r1⟩ := trodAll_cons r0
  obtain ⟨v2, vs2, d2, ds2, p2, q2, rfl, rfl, rfl, h2, r2⟩ := trodAll_cons r1
  obtain ⟨rfl, rfl, rfl⟩ := trodAll_nil r2
  obtain rfl : args = #[v0, v1, v2] := by cases args; simp_all
  obtain ⟨rfl, rfl⟩ := trodVars_none hV
  have k0 := h0
  have lt0 : ∀ x ∈ p0, x.block < W.heap.size := by obtain ⟨m, hm⟩ := k0; exact DataW.trod_lt m _ _ _ hm
  obtain ⟨x0, K0, w0⟩ := Opens.arg o28 hsz (j := 0) rfl rfl h0
  obtain ⟨cs0, rfl, _⟩ := okWide_struct Try.underlying28 (hval 0 28 v0 rfl rfl)
  have KK0 : PT.k28.K W x0 cs0.toList := K0
  obtain ⟨A0_0, c0_0, A0_1, c0_1, A0_2, c0_2, A0_3, c0_3, e0, hc0_0, hr0_0, hc0_1, hr0_1, hc0_2, hr0_2, hc0_3, hr0_3⟩ := PT.k28_open KK0
  obtain rfl : cs0 = ([.slice A0_0 (x0.f0).length c0_0, .slice A0_1 (x0.f1).length c0_1, .slice A0_2 (x0.f2).length c0_2, .slice A0_3 (x0.f3).length c0_3, .int .u8 x0.f4] : List Value).toArray := by rw [← e0]
  have k1 := h1
  have lt1 : ∀ x ∈ p1, x.block < W.heap.size := by obtain ⟨m, hm⟩ := k1; exact DataW.trod_lt m _ _ _ hm
  obtain ⟨x1, K1, w1⟩ := Opens.arg (o_slice Try.underlying48 (by kernel_rfl) 112 (by kernel_rfl) o32) hsz (j := 1) rfl rfl h1
  obtain ⟨a1, len1, cap1, rfl⟩ := okWide_slice Try.underlying48 (hval 1 48 v1 rfl rfl)
  obtain ⟨A1, c1, e1, hc1, hr1⟩ := K1
  simp [Value.cells] at e1
  obtain ⟨rfl, rfl, rfl⟩ := e1
  have k2 := h2
  have lt2 : ∀ x ∈ p2, x.block < W.heap.size := by obtain ⟨m, hm⟩ := k2; exact DataW.trod_lt m _ _ _ hm
  obtain ⟨x2, K2, w2⟩ := Opens.arg (o_slice Try.underlying22 (by kernel_rfl) 8 (by kernel_rfl) (o_int Try.underlying3 (by kernel_rfl))) hsz (j := 2) rfl rfl h2
  obtain ⟨a2, len2, cap2, rfl⟩ := okWide_slice Try.underlying22 (hval 2 22 v2 rfl rfl)
  obtain ⟨A2, c2, e2, hc2, hr2⟩ := K2
  simp [Value.cells] at e2
  obtain ⟨rfl, rfl, rfl⟩ := e2
  clear hA0 hval0 hsz0 hsz
  refine (PT.holds_law ⟨_, _, _, _, _, _, _, _, _, _, _, rfl, hr0_0, hc0_0, hr0_1, hc0_1, hr0_2, hc0_2, hr0_3, hc0_3⟩ x1 x2 _ _ _ _ hr1 hc1 hr2 hc2).mono fun e W' ⟨he, bel0⟩ => ?_
  have bel : Below W.heap.size W W' := bel0
  subst he
  exact ⟨_, rfl, _, _, _, [], _, [], hW', trodAll_mk1 (shut_bool Try.underlying4 _), (trodAll_cons_mk (Below.trod laidOut (by kernel_rfl) (of_decide_eq_true (by kernel_rfl)) k0 bel lt0) (trodAll_cons_mk (Below.trod laidOut (by kernel_rfl) (of_decide_eq_true (by kernel_rfl)) k1 bel lt1) (trodAll_cons_mk (Below.trod laidOut (by kernel_rfl) (of_decide_eq_true (by kernel_rfl)) k2 bel lt2) trodAll_mk0))), rfl, bel.frame _, fun h => by cases h⟩
theorem over : Rows.quotaHoldsRow.holds Try.pinned (OpenSpec.ofChange Rows.quotaHoldsSpec) :=
  OpenClaim.holds_of_wide 4 Try.f4 rfl rfl rfl rfl rfl rfl rfl ⟨rfl, rfl, rfl, rfl, rfl⟩ rfl rfl rfl rfl rfl (by kernel_rfl) Try.func4 (by kernel_rfl)
    (of_decide_eq_true (by kernel_rfl)) (by unfold Func.isWrapper; first | (rw [if_pos (by decide +kernel)]; kernel_rfl) | (rw [if_neg (by decide +kernel)]; exact ⟨rfl, rfl⟩))
    (fun os started H enc _ => lifted os started H enc)
theorem proved : Rows.QuotaHoldsSaid := over
#print axioms proved
end Go.Proofs.Ytcnobkcddgcifaa.quotaHolds
namespace Go.Proofs.Ytcnobkcddgcifaa
/-- The row, under a short name, for the claim. -/
theorem quotaHolds_holds : Rows.QuotaHoldsSaid := quotaHolds.proved
end Go.Proofs.Ytcnobkcddgcifaa
