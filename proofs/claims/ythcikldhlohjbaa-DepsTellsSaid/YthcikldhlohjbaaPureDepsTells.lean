import Derived.Test.YthcikldhlohjbaaPDx10
import Derived.Test.YthcikldhlohjbaaPDOpenDepsTells
import Derived.Test.YthcikldhlohjbaaPlainDepsC
set_option linter.unusedVariables false
set_option linter.unusedSimpArgs false
namespace Go.Proofs.Ythcikldhlohjbaa.Pure
open Go.RowKit Go.Proofs.YthcikldhlohjbaaW.PrintWords Go.Proofs.YthcikldhlohjbaaW.PrintLast Go.Proofs.YthcikldhlohjbaaW.PrintMore Go.Proofs.Ythcikldhlohjbaa.PD Go.Proofs.Ythcikldhlohjbaa.PD.DepsTellsOpen
theorem DepsTells (x0 : List (S104)) (x1 : List (S43)) (x2 : Int) (w0 : (x0.length * 16 ≤ 140737488351232 ∧ ∀ yx0 ∈ x0, g104 yx0)) (w1 : (x1.length * 184 ≤ 140737488351232 ∧ ∀ yx1 ∈ x1, g43 yx1)) (w2 : (Lit.int .i64 x2).wf = true) : ∃ k, PD.musterlaw20_DepsTells.f k x0 x1 x2 = some true := by
  have hd : ∀ x ∈ x1, x.f3.f7.length < 8796093022208 := fun x hx => by
    have h1 := (w1.2 x hx).2.2.2.1.2.2.2.2.2.2.2.1
    omega
  obtain ⟨r, ⟨K1, h1⟩, ⟨K2, h2⟩⟩ := right_same x0 x2
  obtain ⟨k, hk⟩ : ∃ k, k = x0.length + x1.length + depLen x1 + K1 + K2 + 3 := ⟨_, rfl⟩
  refine ⟨k + 3, ?_⟩
  have ht : ∀ k, PD.musterlaw20_DepsTells.j0 (k + 1) x0 x1 x2 true = some true := fun k => by unfold PD.musterlaw20_DepsTells.j0; rfl
  have hj : PD.musterlaw20_DepsTells.j1 (k + 2) x0 x1 x0 x1 false = some true := by
    rw [PD.musterlaw20_DepsTells.j1, if_neg (by decide), sameDeps x0 (by omega) (k + 1) (by omega), Option.bind_some, if_pos rfl, sameJobs x1 (by omega) (fun x hx => by have := hd x hx; omega) (k + 1) (by omega), Option.bind_some, if_pos rfl]
    rfl
  unfold PD.musterlaw20_DepsTells.f
  split
  · exact ht _
  · by_cases hb : (x0.length : Int) > 300
    · rw [decide_eq_true hb]; exact ht _
    · rw [decide_eq_false hb]
      rw [PD.musterlaw20_DepsTells.j0, if_neg (by decide), copyDeps x0 (by omega) (k + 2) (by omega), Option.bind_some, copyJobs x1 (by omega) hd (k + 2) (by omega), Option.bind_some, h1 (k + 2) (by omega), Option.bind_some, h2 (k + 2) (by omega), Option.bind_some, if_pos rfl]
      simp only [deps_Holds.f, deps_Never.f, Option.bind_some, refHolds x1 (by omega) x0 (by omega) (k + 2) (by omega), refNever x1 (by omega) x0 (by omega) (k + 2) (by omega), bne_self_eq_false, Bool.false_eq_true, ↓reduceIte, hj]
end Go.Proofs.Ythcikldhlohjbaa.Pure
