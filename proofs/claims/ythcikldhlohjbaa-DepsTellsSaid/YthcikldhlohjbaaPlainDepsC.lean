/- Jobs that are the same are told the same. -/
import Derived.Test.YthcikldhlohjbaaPDx8
import Derived.Test.YthcikldhlohjbaaPDx9
import Derived.Test.YthcikldhlohjbaaPlainDepsB
set_option linter.unusedVariables false
set_option linter.unusedSimpArgs false
namespace Go.Proofs.Ythcikldhlohjbaa.PD
open Go.RowKit Go.Proofs.YthcikldhlohjbaaW.PrintWords Go.Proofs.YthcikldhlohjbaaW.PrintLast Go.Proofs.YthcikldhlohjbaaW.PrintMore
theorem sameJob (x : S43) (k : Nat) (hd : x.f3.f7.length < 9000000000000000000) (hk : x.f3.f7.length < k) :
    musterkit_SameJob.f k x.f0 x.f1 x.f2 x.f3.f0 x.f3.f1 x.f3.f2 x.f3.f3 x.f3.f4 x.f3.f5 x.f3.f6 x.f3.f7 x.f4 x.f5 x.f6 x.f7 x.f8 x.f9 x.f0 x.f1 x.f2 x.f3.f0 x.f3.f1 x.f3.f2 x.f3.f3 x.f3.f4 x.f3.f5 x.f3.f6 x.f3.f7 x.f4 x.f5 x.f6 x.f7 x.f8 x.f9 = some true := by
  unfold musterkit_SameJob.f musterkit_SameSpec.f
  simp only [↓reduceIte, sameDeps x.f3.f7 hd k hk, Option.bind_some, beq_self_eq_true]
theorem sameJobs_l0 (l : List S43) (hl : l.length < 9000000000000000000) (D : Nat) (hd : ∀ x ∈ l, x.f3.f7.length < 9000000000000000000 ∧ x.f3.f7.length < D) : ∀ (k j : Nat), j ≤ l.length → l.length - j + D < k → musterkit_SameJobs.l0 k l l j = some true := by
  intro k
  induction k with
  | zero => intro j _ h; omega
  | succ k ih =>
    intro j hj hk
    unfold musterkit_SameJobs.l0
    by_cases h : j < l.length
    · have hx := hd l[j] (List.getElem_mem h)
      rw [if_pos (by omega), if_pos (by omega), if_pos (by omega), rdJob h, sameJob l[j] k hx.1 (by omega), Option.bind_some, if_pos rfl, wr1 h (by omega)]
      exact ih (j + 1) (by omega) (by omega)
    · rw [if_neg (by omega)]
theorem sameJobs (l : List S43) (hl : l.length < 9000000000000000000) (hd : ∀ x ∈ l, x.f3.f7.length < 9000000000000000000) (k : Nat) (hk : l.length + depLen l < k) : musterkit_SameJobs.f k l l = some true := by
  unfold musterkit_SameJobs.f
  rw [if_pos rfl]
  exact sameJobs_l0 l hl (depLen l) (fun x hx => ⟨hd x hx, depLen_lt hx⟩) k 0 (Nat.zero_le _) (by omega)
end Go.Proofs.Ythcikldhlohjbaa.PD
