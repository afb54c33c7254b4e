/- What the printed functions of layer 20 and the kit's copies compute. -/
import Derived.Test.YthcikldhlohjbaaPSx7
import Derived.Test.YthcikldhlohjbaaSDepsC
set_option linter.unusedVariables false
set_option linter.unusedSimpArgs false
namespace Go.Proofs.Ythcikldhlohjbaa.PS
open Go.RowKit Go.Proofs.YthcikldhlohjbaaW.PrintWords Go.Proofs.YthcikldhlohjbaaW.PrintLast Go.Proofs.YthcikldhlohjbaaW.PrintMore
theorem wr1 {j n : Nat} (h : j < n) (hn : n ≤ 9000000000000000000) : wrap64 ((j : Int) + 1) = ((j + 1 : Nat) : Int) := by
  have : wrap64 ((j : Int) + 1) = (j : Int) + 1 := by unfold wrap64; omega
  rw [this]; rfl
theorem rdDep {l : List S104} {j : Nat} (h : j < l.length) : rd_T104 l j = l[j] := by unfold rd_T104; simp [List.getD, h]
theorem rdJob {l : List S43} {j : Nat} (h : j < l.length) : rd_T43 l j = l[j] := by unfold rd_T43; simp [List.getD, h]

theorem copyDeps_l0 (l : List S104) (hl : l.length < 8796093022208) : ∀ (k j : Nat), j ≤ l.length → l.length - j < k → musterkit_CopyDeps.l0 k l (l.take j) j = some l := by
  intro k
  induction k with
  | zero => intro j _ h; omega
  | succ k ih =>
    intro j hj hk
    unfold musterkit_CopyDeps.l0
    by_cases h : j < l.length
    · rw [if_pos (by omega), if_pos (by omega), if_pos (by rw [List.length_take]; omega), rdDep h, wr1 h (by omega)]
      have := ih (j + 1) (by omega) (by omega)
      rw [List.take_succ_eq_append_getElem h] at this
      exact this
    · rw [if_neg (by omega), List.take_of_length_le (by omega)]
theorem copyDeps (l : List S104) (hl : l.length < 8796093022208) (k : Nat) (hk : l.length < k) : musterkit_CopyDeps.f k l = some l := copyDeps_l0 l hl k 0 (Nat.zero_le _) (by omega)

/-- How long the lists of dependencies are, in all. -/
def depLen (l : List S43) : Nat := (l.map fun x => x.f3.f7.length).sum + 1
theorem depLen_lt {l : List S43} {x : S43} (h : x ∈ l) : x.f3.f7.length < depLen l := by
  unfold depLen
  induction l with
  | nil => cases h
  | cons y l ih =>
    rw [List.map_cons, List.sum_cons]
    rcases List.mem_cons.1 h with rfl | h
    · omega
    · have := ih h; omega
theorem copyJob (x : S43) (k : Nat) (hd : x.f3.f7.length < 8796093022208) (hk : x.f3.f7.length < k) :
    musterkit_CopyJob.f k x.f0 x.f1 x.f2 x.f3.f0 x.f3.f1 x.f3.f2 x.f3.f3 x.f3.f4 x.f3.f5 x.f3.f6 x.f3.f7 x.f4 x.f5 x.f6 x.f7 x.f8 x.f9 = some (x.f0, x.f1, x.f2, x.f3.f0, x.f3.f1, x.f3.f2, x.f3.f3, x.f3.f4, x.f3.f5, x.f3.f6, x.f3.f7, x.f4, x.f5, x.f6, x.f7, x.f8, x.f9) := by
  unfold musterkit_CopyJob.f musterkit_CopySpec.f
  rw [copyDeps _ hd k hk]
  rfl
theorem copyJobs_l0 (l : List S43) (hl : l.length < 764877654105) (D : Nat) (hd : ∀ x ∈ l, x.f3.f7.length < 8796093022208 ∧ x.f3.f7.length < D) : ∀ (k j : Nat), j ≤ l.length → l.length - j + D < k → musterkit_CopyJobs.l0 k l (l.take j) j = some l := by
  intro k
  induction k with
  | zero => intro j _ h; omega
  | succ k ih =>
    intro j hj hk
    unfold musterkit_CopyJobs.l0
    by_cases h : j < l.length
    · have hx := hd l[j] (List.getElem_mem h)
      rw [if_pos (by omega), if_pos (by omega), rdJob h, copyJob l[j] k hx.1 (by omega), Option.bind_some, if_pos (by rw [List.length_take]; omega), wr1 h (by omega)]
      have := ih (j + 1) (by omega) (by omega)
      rw [List.take_succ_eq_append_getElem h] at this
      exact this
    · rw [if_neg (by omega), List.take_of_length_le (by omega)]
theorem copyJobs (l : List S43) (hl : l.length < 764877654105) (hd : ∀ x ∈ l, x.f3.f7.length < 8796093022208) (k : Nat) (hk : l.length + depLen l < k) : musterkit_CopyJobs.f k l = some l :=
  copyJobs_l0 l hl (depLen l) (fun x hx => ⟨hd x hx, depLen_lt hx⟩) k 0 (Nat.zero_le _) (by omega)
end Go.Proofs.Ythcikldhlohjbaa.PS
