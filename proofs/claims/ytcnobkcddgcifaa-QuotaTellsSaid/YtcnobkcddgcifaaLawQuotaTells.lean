/- What runs is counted by account and by quality, and whether one more job may run is told, as the document defines. (The row.) -/
import Derived.Test.YtcnobkcddgcifaaRows
import Derived.WalkKit
import Derived.ProofKit
import Derived.OpenShut
import Derived.ShutString
import Derived.ChangeOld
import Derived.Below
import Derived.SizedLaws
import Derived.Test.YtcnobkcddgcifaaPkT0
import Derived.Test.YtcnobkcddgcifaaPkT1
import Derived.Test.YtcnobkcddgcifaaPkT2
import Derived.Test.YtcnobkcddgcifaaPkT3
import Derived.Test.YtcnobkcddgcifaaPkT4
import Derived.Test.YtcnobkcddgcifaaPkT5
import Derived.Test.YtcnobkcddgcifaaPkT6
import Derived.Test.YtcnobkcddgcifaaPkT7
import Derived.Test.YtcnobkcddgcifaaPkT8
import Derived.Test.YtcnobkcddgcifaaPkT9
import Derived.Test.YtcnobkcddgcifaaPkT10
namespace Go.Proofs.Ytcnobkcddgcifaa.quotaTells
open Go.ChangeShapes Go.WideShapes Go.ChangeAt Go.RowKit Go.Proofs.Ytcnobkcddgcifaa.Open Go.Proofs.Ytcnobkcddgcifaa.PT.QuotaTellsOpen

open Go.ChangeMaps (open_string shut_string)
set_option linter.unusedVariables false
theorem own : ownKnob Try.prog.godebug = none := by kernel_rfl
theorem laidOut : laidOutB Try.prog = true := by kernel_rfl
set_option maxRecDepth 100000 in
theorem lifted (os : Os) (started : os.Started) (H : Type) (enc : TypeId × Value → H) :
    ReturnsInHanded {} Try.checked os 3 .any (Rows.quotaTellsSpec.pre6 enc Try.prog Try.f3 Rows.quotaTellsRow.domain false) (Rows.quotaTellsSpec.post enc Try.prog Try.f3 false true false false) := by
  refine returnsInHanded_of_change_sized (C := Try.checked) own started (by kernel_rfl) Try.func3
    (ChangeSpec.witness6 (enc := enc) (C := Try.checked) false ⟨#[], #[.agg #[.slice none 0 0, .slice none 0 0, .slice none 0 0, .slice none 0 0, .int .u8 0], .slice none 0 0, .agg #[.string ByteArray.empty, .string ByteArray.empty, .string ByteArray.empty, .string ByteArray.empty, .int .i64 0, .int .i64 0, .int .i64 0, .slice none 0 0]], []⟩ 8 (by kernel_rfl) (by kernel_rfl) (by kernel_rfl) (by kernel_rfl)) ?_
  intro W base args ds gs before hval0 hW hcnd hsz0 _
  have hsz : (DataW.weightsEach Try.prog (Try.f3.params.toList ++ Rows.quotaTellsSpec.plain.varTypes Try.prog) (ds ++ gs)).all (· ≤ reachBytes) = true := hsz0
  have hval : ∀ (j : Nat) t v, Try.f3.params[j]? = some t → args[j]? = some v → Value.okWide Try.prog W .any base t v := hval0
  have hW' := hW
  obtain ⟨p, q, hA0, hV, rfl, hfz, hnd⟩ := hW
  have hA : DataW.TrodAll enc Try.prog W 0 (fun _ => true) true Try.f3.params.toList args.toList ds p := hA0
  rw [Try.params3] at hA hval hsz
  obtain ⟨v0, vs0, d0, ds0, p0, q0, hargs, rfl, rfl, h0, r0⟩ := trodAll_cons hA
  obtain ⟨v1, vs1, d1, ds1, p1, q1, rfl, rfl, rfl, h1, r1⟩ := trodAll_cons r0
  obtain ⟨v2, vs2, d2, ds2, p2, q2, rfl, rfl, rfl, h2, r2⟩ := trodAll_cons r1
  obtain ⟨rfl, rfl, rfl⟩ := trodAll_nil r2
  obtain rfl : args = #[v0, v1, v2] := by cases args; simp_all
  obtain ⟨rfl, rfl⟩ := trodVars_none hV
  have k0 := h0
  have lt0 : ∀ x ∈ p0, x.block < W.heap.size := by obtain ⟨m, hm⟩ := k0; exact DataW.trod_lt m _ _ _ hm
  obtain ⟨x0, K0, w0⟩ := Opens.arg o28 hsz (j := 0) rfl rfl h0
  obtain ⟨cs0, rfl, _⟩ := okWide_struct Try.underlying28 (hval 0 28 v0 rfl rfl)
  have KK0 : PT.k28.K W x0 cs0.toList := K0
  obtain ⟨A0_0, c0_0, A0_1, c0_1, A0_2, c0_2, A0_3, c0_3, e0, hc0_0, hr0_0, hc0_1, hr0_1, hc0_2, hr0_2, hc0_3, hr0_3⟩ := PT.k28_open KK0
  obtain rfl : cs0 = ([.slice A0_0 (x0.f0).length c0_0, .slice A0_1 (x0.f1).length c0_1, .slice A0_2 (x0.f2).length c0_2, .slice A0_3 (x0.f3).length c0_3, .int .u8 x0.f4] : List Value).toArray := by rw [← e0]
  have k1 := h1
  have lt1 : ∀ x ∈ p1, x.block < W.heap.size := by obtain ⟨m, hm⟩ := k1; exact DataW.trod_lt m _ _ _ hm
  obtain ⟨x1, K1, w1⟩ := Opens.arg (o_slice Try.underlying29 (by kernel_rfl) 184 (by kernel_rfl) o53) hsz (j := 1) rfl rfl h1
  obtain ⟨a1, len1, cap1, rfl⟩ := okWide_slice Try.underlying29 (hval 1 29 v1 rfl rfl)
  obtain ⟨A1, c1, e1, hc1, hr1⟩ := K1
  simp [Value.cells] at e1
  obtain ⟨rfl, rfl, rfl⟩ := e1
  have k2 := h2
  have lt2 : ∀ x ∈ p2, x.block < W.heap.size := by obtain ⟨m, hm⟩ := k2; exact DataW.trod_lt m _ _ _ hm
  obtain ⟨x2, K2, w2⟩ := Opens.arg o32 hsz (j := 2) rfl rfl h2
  obtain ⟨cs2, rfl, _⟩ := okWide_struct Try.underlying32 (hval 2 32 v2 rfl rfl)
  have KK2 : PT.k32.K W x2 cs2.toList := K2
  obtain ⟨A2_7, c2_7, e2, hc2_7, hr2_7⟩ := PT.k32_open KK2
  obtain rfl : cs2 = ([.string x2.f0, .string x2.f1, .string x2.f2, .string x2.f3, .int .i64 x2.f4, .int .i64 x2.f5, .int .i64 x2.f6, .slice A2_7 (x2.f7).length c2_7] : List Value).toArray := by rw [← e2]
  clear hA0 hval0 hsz0 hsz
  have hdep1 : ∀ x ∈ x1, x.f3.f7.length < 8796093022208 := fun x hx => by
    obtain ⟨_, _, _, ⟨_, _, _, _, _, _, _, h7, _⟩, _⟩ := w1.2 x hx
    omega
  have g0 := w0.1.1
  have g1 := w0.2.1.1
  have g2 := w0.2.2.1.1
  have g3 := w0.2.2.2.1.1
  have g4 := w1.1
  have hM : PT.Mild x0.f0 x0.f1 x0.f2 x0.f3 := ⟨by omega, by omega, fun x hx => by
    obtain ⟨_, _, _, _, h4, _⟩ := w0.2.1.2 x hx
    omega, by omega, by omega⟩
  have hmd : PT.mildQ x0.f3 x0.f2 = true := PT.mildQ_iff.2 ⟨by omega, by omega, fun x hx => by
    have := (w0.2.2.1.2 x hx).1
    omega, fun x hx => by
    have := (w0.2.2.2.1.2 x hx).1
    omega⟩
  refine (PT.tells_law hM hmd _ _ _ _ _ _ _ _ _ hr0_0 hc0_0 hr0_1 hc0_1 hr0_2 hc0_2 hr0_3 hc0_3 x1 _ _ hr1 hc1 (by omega) hdep1 x2 _ _ hr2_7 hc2_7).mono fun e W' ⟨he, bel0⟩ => ?_
  have bel : Below W.heap.size W W' := bel0
  subst he
  exact ⟨_, rfl, _, _, _, [], _, [], hW', trodAll_mk1 (shut_bool Try.underlying4 _), (trodAll_cons_mk (Below.trod laidOut (by kernel_rfl) (of_decide_eq_true (by kernel_rfl)) k0 bel lt0) (trodAll_cons_mk (Below.trod laidOut (by kernel_rfl) (of_decide_eq_true (by kernel_rfl)) k1 bel lt1) (trodAll_cons_mk (Below.trod laidOut (by kernel_rfl) (of_decide_eq_true (by kernel_rfl)) k2 bel lt2) trodAll_mk0))), rfl, bel.frame _, fun h => by cases h⟩
theorem over : Rows.quotaTellsRow.holds Try.pinned (OpenSpec.ofChange Rows.quotaTellsSpec) :=
  OpenClaim.holds_of_wide 3 Try.f3 rfl rfl rfl rfl rfl rfl rfl ⟨rfl, rfl, rfl, rfl, rfl⟩ rfl rfl rfl rfl rfl (by kernel_rfl) Try.func3 (by kernel_rfl)
    (of_decide_eq_true (by kernel_rfl)) (by unfold Func.isWrapper; first | (rw [if_pos (by decide +kernel)]; kernel_rfl) | (rw [if_neg (by decide +kernel)]; exact ⟨rfl, rfl⟩))
    (fun os started H enc _ => lifted os started H enc)
theorem proved : Rows.QuotaTellsSaid := over
#print axioms proved
end Go.Proofs.Ytcnobkcddgcifaa.quotaTells
namespace Go.Proofs.Ytcnobkcddgcifaa
/-- The row, under a short name, for the claim. -/
theorem quotaTells_holds : Rows.QuotaTellsSaid := quotaTells.proved
end Go.Proofs.Ytcnobkcddgcifaa
