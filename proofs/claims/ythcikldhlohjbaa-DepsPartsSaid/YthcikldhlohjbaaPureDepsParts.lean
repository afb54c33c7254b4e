import Derived.Test.YthcikldhlohjbaaPDx11
import Derived.Test.YthcikldhlohjbaaPDOpenDepsParts
import Derived.Test.YthcikldhlohjbaaPlainDeps
set_option linter.unusedVariables false
set_option linter.unusedSimpArgs false
namespace Go.Proofs.Ythcikldhlohjbaa.Pure
open Go.RowKit Go.Proofs.YthcikldhlohjbaaW.PrintWords Go.Proofs.YthcikldhlohjbaaW.PrintLast Go.Proofs.YthcikldhlohjbaaW.PrintMore Go.Proofs.Ythcikldhlohjbaa.PD Go.Proofs.Ythcikldhlohjbaa.PD.DepsPartsOpen
theorem holds_app (a b : List S104) (j : List S43) : depsHolds (a ++ b) j = (depsHolds a j && depsHolds b j) := by unfold depsHolds; rw [List.any_append, Bool.not_or]
theorem never_app (a b : List S104) (j : List S43) : depsNever (a ++ b) j = (depsNever a j || depsNever b j) := by unfold depsNever; rw [List.any_append]
theorem not_both (a : List S104) (j : List S43) (h : depsHolds a j = true) : depsNever a j = false := by
  unfold depsHolds at h
  unfold depsNever
  rw [Bool.not_eq_true'] at h
  rw [List.any_eq_false] at h ⊢
  intro x hx hv
  have h1 := h x hx
  simp only [decide_eq_true_eq] at h1 hv
  omega
theorem parts_j1 (k : Nat) (x0 : List S104) (x2 : List S43) : PD.musterlaw20_DepsParts.j1 (k + 1) x0 x2 false = some true := by
  unfold PD.musterlaw20_DepsParts.j1
  have h1 : depsHolds [] x2 = true := rfl
  have h2 : depsNever [] x2 = false := rfl
  simp only [deps_Holds.f, deps_Never.f, musterlaw20_awake.f, Option.bind_some, h1, h2]
  cases h : depsHolds x0 x2 with
  | false => simp
  | true => simp [not_both x0 x2 h]
theorem DepsParts (x0 : List (S104)) (x1 : List (S104)) (x2 : List (S43)) (w0 : (x0.length * 16 ≤ 140737488351232 ∧ ∀ yx0 ∈ x0, g104 yx0)) (w1 : (x1.length * 16 ≤ 140737488351232 ∧ ∀ yx1 ∈ x1, g104 yx1)) (w2 : (x2.length * 184 ≤ 140737488351232 ∧ ∀ yx2 ∈ x2, g43 yx2)) : ∃ k, PD.musterlaw20_DepsParts.f k x0 x1 x2 = some true := by
  obtain ⟨k, hk⟩ : ∃ k, k = x0.length + 1 := ⟨_, rfl⟩
  refine ⟨k + 2, ?_⟩
  have ht : PD.musterlaw20_DepsParts.j0 (k + 2) x0 x1 x2 true = some true := by unfold PD.musterlaw20_DepsParts.j0; rfl
  unfold PD.musterlaw20_DepsParts.f
  split
  · exact ht
  · by_cases hb : wrap64 ((x0.length : Int) + (x1.length : Int)) > 300
    · rw [decide_eq_true hb]; exact ht
    · rw [decide_eq_false hb]
      have hl : x0.length + x1.length ≤ 300 := by
        have : wrap64 ((x0.length : Int) + (x1.length : Int)) = (x0.length : Int) + (x1.length : Int) := by unfold wrap64; omega
        omega
      unfold PD.musterlaw20_DepsParts.j0
      simp only [if_neg (show ¬ (false = true) by decide), copyDeps x0 (by omega) (k + 1) (by omega), Option.bind_some, deps_Holds.f, deps_Never.f, holds_app, never_app]
      rw [if_pos (by omega)]
      cases h1 : depsHolds x0 x2 <;> cases h2 : depsHolds x1 x2 <;> cases h3 : depsNever x0 x2 <;> cases h4 : depsNever x1 x2 <;> simp [parts_j1, h1, h2, h3, h4]
end Go.Proofs.Ythcikldhlohjbaa.Pure
