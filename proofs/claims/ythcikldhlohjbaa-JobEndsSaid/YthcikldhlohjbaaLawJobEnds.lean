-- printed by mkrow.py
import Derived.Test.YthcikldhlohjbaaRows
import Derived.Test.YthcikldhlohjbaaPJx12
import Derived.Test.YthcikldhlohjbaaPureJobEnds
import Derived.Test.YthcikldhlohjbaaPJOpenJobEnds
import Derived.WalkKit
import Derived.ProofKit
import Derived.OpenShut
import Derived.ShutString
import Derived.ChangeOld
import Derived.Below
import Derived.SizedLaws
namespace Go.Proofs.Ythcikldhlohjbaa.jobEnds
open Go.ChangeShapes Go.WideShapes Go.ChangeAt Go.RowKit Go.Proofs.Ythcikldhlohjbaa.Open Go.Proofs.Ythcikldhlohjbaa.PJ.JobEndsOpen

open Go.ChangeMaps (open_string shut_string)
set_option linter.unusedVariables false
theorem own : ownKnob Try.prog.godebug = none := by kernel_rfl
theorem laidOut : laidOutB Try.prog = true := by kernel_rfl
set_option maxRecDepth 100000 in
theorem lifted (os : Os) (started : os.Started) (H : Type) (enc : TypeId × Value → H) :
    ReturnsInHanded {} Try.checked os 10 .any (Rows.jobEndsSpec.pre6 enc Try.prog Try.f10 Rows.jobEndsRow.domain false) (Rows.jobEndsSpec.post enc Try.prog Try.f10 false true false false) := by
  refine returnsInHanded_of_change_sized (C := Try.checked) own started (by kernel_rfl) Try.func10
    (ChangeSpec.witness6 (enc := enc) (C := Try.checked) false ⟨#[], #[.agg #[.int .i64 0, .int .i64 0, .int .i64 0, .string ByteArray.empty, .string ByteArray.empty, .string ByteArray.empty, .string ByteArray.empty, .int .i64 0, .int .i64 0, .int .i64 0, .slice none 0 0, .int .u8 0, .int .i64 0, .int .i64 0, .int .i64 0, .int .u32 0, .int .i64 0], .agg #[.int .u32 0, .int .u8 0, .int .i64 0, .int .i64 0], .agg #[.int .u32 0, .int .u8 0, .int .i64 0, .int .i64 0]], []⟩ 8 (by kernel_rfl) (by kernel_rfl) (by kernel_rfl) (by kernel_rfl)) ?_
  intro W base args ds gs before hval0 hW hcnd hsz0 _
  have hsz : (DataW.weightsEach Try.prog (Try.f10.params.toList ++ Rows.jobEndsSpec.plain.varTypes Try.prog) (ds ++ gs)).all (· ≤ reachBytes) = true := hsz0
  have hval : ∀ (j : Nat) t v, Try.f10.params[j]? = some t → args[j]? = some v → Value.okWide Try.prog W .any base t v := hval0
  have hW' := hW
  obtain ⟨p, q, hA0, hV, rfl, hfz, hnd⟩ := hW
  have hA : DataW.TrodAll enc Try.prog W 0 (fun _ => true) true Try.f10.params.toList args.toList ds p := hA0
  rw [Try.params10] at hA hval hsz
  obtain ⟨v0, vs0, d0, ds0, p0, q0, hargs, rfl, rfl, h0, r0⟩ := trodAll_cons hA
  obtain ⟨v1, vs1, d1, ds1, p1, q1, rfl, rfl, rfl, h1, r1⟩ := trodAll_cons r0
  obtain ⟨v2, vs2, d2, ds2, p2, q2, rfl, rfl, rfl, h2, r2⟩ := trodAll_cons r1
  obtain ⟨rfl, rfl, rfl⟩ := trodAll_nil r2
  obtain rfl : args = #[v0, v1, v2] := by cases args; simp_all
  obtain ⟨rfl, rfl⟩ := trodVars_none hV
  have k0 := h0
  have lt0 : ∀ x ∈ p0, x.block < W.heap.size := by obtain ⟨m, hm⟩ := k0; exact DataW.trod_lt m _ _ _ hm
  obtain ⟨x0, K0, w0⟩ := Opens.arg o43 hsz (j := 0) rfl rfl h0
  obtain ⟨cs0, rfl, _⟩ := okWide_struct Try.underlying43 (hval 0 43 v0 rfl rfl)
  have KK0 : PJ.k43.K W x0 cs0.toList := K0
  obtain ⟨A0_10, c0_10, e0, hc0_10, hr0_10⟩ := PJ.k43_open KK0
  obtain rfl : cs0 = ([.int .i64 x0.f0, .int .i64 x0.f1, .int .i64 x0.f2, .string x0.f3.f0, .string x0.f3.f1, .string x0.f3.f2, .string x0.f3.f3, .int .i64 x0.f3.f4, .int .i64 x0.f3.f5, .int .i64 x0.f3.f6, .slice A0_10 (x0.f3.f7).length c0_10, .int .u8 x0.f4, .int .i64 x0.f5, .int .i64 x0.f6, .int .i64 x0.f7, .int .u32 x0.f8, .int .i64 x0.f9] : List Value).toArray := by rw [← e0]
  have k1 := h1
  have lt1 : ∀ x ∈ p1, x.block < W.heap.size := by obtain ⟨m, hm⟩ := k1; exact DataW.trod_lt m _ _ _ hm
  obtain ⟨x1, K1, w1⟩ := Opens.arg o72 hsz (j := 1) rfl rfl h1
  obtain ⟨cs1, rfl, _⟩ := okWide_struct Try.underlying72 (hval 1 72 v1 rfl rfl)
  have KK1 : PJ.k72.K W x1 cs1.toList := K1
  have e1 := PJ.k72_open KK1
  obtain rfl : cs1 = ([.int .u32 x1.f0, .int .u8 x1.f1, .int .i64 x1.f2, .int .i64 x1.f3] : List Value).toArray := by rw [← e1]
  have k2 := h2
  have lt2 : ∀ x ∈ p2, x.block < W.heap.size := by obtain ⟨m, hm⟩ := k2; exact DataW.trod_lt m _ _ _ hm
  obtain ⟨x2, K2, w2⟩ := Opens.arg o72 hsz (j := 2) rfl rfl h2
  obtain ⟨cs2, rfl, _⟩ := okWide_struct Try.underlying72 (hval 2 72 v2 rfl rfl)
  have KK2 : PJ.k72.K W x2 cs2.toList := K2
  have e2 := PJ.k72_open KK2
  obtain rfl : cs2 = ([.int .u32 x2.f0, .int .u8 x2.f1, .int .i64 x2.f2, .int .i64 x2.f3] : List Value).toArray := by rw [← e2]
  clear hA0 hval0 hsz0 hsz
  have hk := Pure.JobEnds x0 x1 x2 w0 w1 w2
  refine (PJ.musterlaw18_JobEnds.calls x0.f0 x0.f1 x0.f2 x0.f3.f0 x0.f3.f1 x0.f3.f2 x0.f3.f3 x0.f3.f4 x0.f3.f5 x0.f3.f6 _ _ x0.f3.f7 x0.f4 x0.f5 x0.f6 x0.f7 x0.f8 x0.f9 x1.f0 x1.f1 x1.f2 x1.f3 x2.f0 x2.f1 x2.f2 x2.f3 true W hr0_10 hc0_10   hk).mono fun e W' ⟨he, bel0⟩ => ?_
  have bel : Below W.heap.size W W' := bel0
  subst he
  exact ⟨_, rfl, _, _, _, [], _, [], hW', trodAll_mk1 (shut_bool Try.underlying4 _), (trodAll_cons_mk (Below.trod laidOut (by kernel_rfl) (of_decide_eq_true (by kernel_rfl)) k0 bel lt0) (trodAll_cons_mk (Below.trod laidOut (by kernel_rfl) (of_decide_eq_true (by kernel_rfl)) k1 bel lt1) (trodAll_cons_mk (Below.trod laidOut (by kernel_rfl) (of_decide_eq_true (by kernel_rfl)) k2 bel lt2) trodAll_mk0))), rfl, bel.frame _, fun h => by cases h⟩
theorem over : Rows.jobEndsRow.holds Try.pinned (OpenSpec.ofChange Rows.jobEndsSpec) :=
  OpenClaim.holds_of_wide 10 Try.f10 rfl rfl rfl rfl rfl rfl rfl ⟨rfl, rfl, rfl, rfl, rfl⟩ rfl rfl rfl rfl rfl (by kernel_rfl) Try.func10 (by kernel_rfl)
    (of_decide_eq_true (by kernel_rfl)) (by unfold Func.isWrapper; first | (rw [if_pos (by decide +kernel)]; kernel_rfl) | (rw [if_neg (by decide +kernel)]; exact ⟨rfl, rfl⟩))
    (fun os started H enc _ => lifted os started H enc)
theorem proved : Rows.JobEndsSaid := over
#print axioms proved
end Go.Proofs.Ythcikldhlohjbaa.jobEnds
namespace Go.Proofs.Ythcikldhlohjbaa
/-- The row, under a short name, for the claim. -/
theorem jobEnds_holds : Rows.JobEndsSaid := jobEnds.proved
end Go.Proofs.Ythcikldhlohjbaa
