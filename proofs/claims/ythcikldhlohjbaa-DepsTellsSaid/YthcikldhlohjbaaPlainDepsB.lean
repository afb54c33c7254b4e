/- deps.Right as the document's; lists that are the same. -/
import Derived.Test.YthcikldhlohjbaaPDx2
import Derived.Test.YthcikldhlohjbaaPDx7
import Derived.Test.YthcikldhlohjbaaPlainDeps
set_option linter.unusedVariables false
set_option linter.unusedSimpArgs false
namespace Go.Proofs.Ythcikldhlohjbaa.PD
open Go.RowKit Go.Proofs.YthcikldhlohjbaaW.PrintWords Go.Proofs.YthcikldhlohjbaaW.PrintLast Go.Proofs.YthcikldhlohjbaaW.PrintMore
theorem sameDeps_l0 (l : List S104) (hl : l.length < 9000000000000000000) : ∀ (k j : Nat), j ≤ l.length → l.length - j < k → musterkit_SameDeps.l0 k l l j = some true := by
  intro k
  induction k with
  | zero => intro j _ h; omega
  | succ k ih =>
    intro j hj hk
    unfold musterkit_SameDeps.l0
    by_cases h : j < l.length
    · rw [if_pos (by omega), if_pos (by omega), if_pos (by omega), if_neg (by simp), wr1 h (by omega)]
      exact ih (j + 1) (by omega) (by omega)
    · rw [if_neg (by omega)]
theorem sameDeps (l : List S104) (hl : l.length < 9000000000000000000) (k : Nat) (hk : l.length < k) : musterkit_SameDeps.f k l l = some true := by
  unfold musterkit_SameDeps.f
  rw [if_pos rfl]
  exact sameDeps_l0 l hl k 0 (Nat.zero_le _) (by omega)

/-- Is d this one? -/
def isDep (d0 d1 : Int) (x : S104) : Bool := d0 == x.f0 && d1 == x.f1
theorem index_l0 (l : List S104) (hl : l.length < 9000000000000000000) (d0 d1 : Int) : ∀ (k j : Nat), j ≤ l.length → l.length - j < k → ∃ r, api_Dep_102.l0 k l l.length j d0 d1 = some r ∧ decide (r ≥ 0) = (l.drop j).any (isDep d0 d1) := by
  intro k
  induction k with
  | zero => intro j _ h; omega
  | succ k ih =>
    intro j hj hk
    unfold api_Dep_102.l0
    by_cases h : j < l.length
    · rw [if_pos (by omega), if_pos (by omega), if_pos (by omega), rdDep h, wr1 h (by omega), List.drop_eq_getElem_cons h, List.any_cons]
      cases hp : isDep d0 d1 l[j] with
      | true => exact ⟨j, if_pos hp, by simp⟩
      | false =>
        rw [if_neg (by rw [show (d0 == l[j].f0 && d1 == l[j].f1) = isDep d0 d1 l[j] from rfl, hp]; decide), Bool.false_or]
        exact ih (j + 1) (by omega) (by omega)
    · refine ⟨-1, by rw [if_neg (by omega)], ?_⟩
      rw [List.drop_of_length_le (by omega)]
      rfl
theorem contains (l : List S104) (hl : l.length < 9000000000000000000) (d0 d1 : Int) (k : Nat) (hk : l.length < k) : api_Dep_73.f k l d0 d1 = some (l.any (isDep d0 d1)) := by
  unfold api_Dep_73.f api_Dep_102.f
  obtain ⟨r, h1, h2⟩ := index_l0 l hl d0 d1 k 0 (Nat.zero_le _) (by omega)
  rw [List.drop_zero] at h2
  rw [show ((0 : Nat) : Int) = 0 from rfl] at h1
  rw [h1, Option.bind_some, h2]
theorem isDep_comm (a b : S104) : (a.f0 == b.f0 && (a.f1 == b.f1)) = isDep b.f0 b.f1 a := by rw [isDep, BEq.comm (a := a.f0), BEq.comm (a := a.f1)]
theorem refTwice (l : List S104) (n : Int) (hl : l.length < 9000000000000000000) (j : Nat) (hj : j < l.length) : ∀ (t i m : Nat), i + t = j → musterref20_Right.l1 (m + t + 1) l n j i = if ((l.take j).drop i).any (isDep l[j].f0 l[j].f1) = true then some 140 else musterref20_Right.l0 m l n ((j : Int) + 1) := by
  intro t
  induction t with
  | zero =>
    intro i m hi
    unfold musterref20_Right.l1
    rw [if_neg (by omega), List.drop_of_length_le (by rw [List.length_take]; omega), wr1 hj (by omega)]
    rfl
  | succ t ih =>
    intro i m hi
    unfold musterref20_Right.l1
    have h : i < l.length := by omega
    have hd : (l.take j).drop i = l[i] :: (l.take j).drop (i + 1) := by
      rw [List.drop_eq_getElem_cons (by rw [List.length_take]; omega)]
      simp
    rw [if_pos (by omega), if_pos (by omega), if_pos (by omega), if_pos (by omega), if_pos (by omega), rdDep h, rdDep hj, hd, List.any_cons, wr1 h (by omega), isDep_comm]
    cases hp : isDep l[j].f0 l[j].f1 l[i] with
    | true => rfl
    | false =>
      rw [if_neg (by decide), Bool.false_or]
      exact ih (i + 1) m (by omega)
/-- Both answer alike from a place on. -/
theorem right_l0 (l : List S104) (n : Int) (hl : l.length < 9000000000000000000) : ∀ (t j : Nat), j + t = l.length → ∃ r, (∃ K, ∀ k, K ≤ k → deps_Right.l0 k l n l l.length j = some r) ∧ (∃ K, ∀ k, K ≤ k → musterref20_Right.l0 k l n j = some r) := by
  intro t
  induction t with
  | zero =>
    intro j hj
    refine ⟨0, ⟨1, fun k hk => ?_⟩, ⟨1, fun k hk => ?_⟩⟩
    · obtain ⟨k, rfl⟩ : ∃ m, k = m + 1 := ⟨k - 1, by omega⟩
      unfold deps_Right.l0
      rw [if_neg (by omega)]
    · obtain ⟨k, rfl⟩ : ∃ m, k = m + 1 := ⟨k - 1, by omega⟩
      unfold musterref20_Right.l0
      rw [if_neg (by omega)]
  | succ t ih =>
    intro j hj
    have h : j < l.length := by omega
    obtain ⟨r, ⟨K1, h1⟩, ⟨K2, h2⟩⟩ := ih (j + 1) (by omega)
    obtain ⟨d, hd⟩ : ∃ d, d = l[j] := ⟨_, rfl⟩
    have E1 : ∀ k, deps_Right.l0 (k + 1) l n l l.length j = deps_Right.j1 k l n j l l.length j (decide (d.f0 < 1) || decide (d.f0 > 3) || decide (d.f1 < 1)) d.f0 d.f1 := fun k => by
      rw [deps_Right.l0, if_pos (by omega), if_pos (by omega), if_pos (by omega), rdDep h, ← hd]
      by_cases c1 : d.f0 < 1
      · rw [if_pos c1, decide_eq_true c1]; rfl
      · rw [if_neg c1, decide_eq_false c1]
        by_cases c2 : d.f0 > 3
        · rw [if_pos c2, decide_eq_true c2]; rfl
        · rw [if_neg c2, decide_eq_false c2]; rfl
    have E2 : ∀ k, musterref20_Right.l0 (k + 1) l n j = musterref20_Right.j1 k l n j (decide (d.f0 < 1) || decide (d.f0 > 3) || decide (d.f1 < 1)) := fun k => by
      rw [musterref20_Right.l0, if_pos (by omega), if_pos (by omega), rdDep h, ← hd]
      by_cases c1 : d.f0 < 1
      · rw [if_pos c1, decide_eq_true c1]; rfl
      · rw [if_neg c1, decide_eq_false c1]
        by_cases c2 : d.f0 > 3
        · rw [if_pos c2, decide_eq_true c2]; rfl
        · rw [if_neg c2, decide_eq_false c2]; rfl
    obtain ⟨b, hb⟩ : ∃ b, b = (decide (d.f0 < 1) || decide (d.f0 > 3) || decide (d.f1 < 1)) := ⟨_, rfl⟩
    rw [← hb] at E1 E2
    clear hb
    have hlt : (l.take j).length = j := by rw [List.length_take]; omega
    refine ⟨if b = true then 2 else if d.f1 ≥ n then 200 else if (l.take j).any (isDep d.f0 d.f1) = true then 140 else r, ⟨K1 + j + 3, fun k hk => ?_⟩, ⟨K2 + j + 4, fun k hk => ?_⟩⟩
    · obtain ⟨k, rfl⟩ : ∃ m, k = m + 2 := ⟨k - 2, by omega⟩
      rw [E1, deps_Right.j1]
      cases b with
      | true => rfl
      | false =>
        simp only [Bool.false_eq_true, ↓reduceIte]
        by_cases c3 : d.f1 ≥ n
        · rw [if_pos c3, if_pos c3]
        · rw [if_neg c3, if_neg c3, if_pos (by omega), if_pos (by omega), Int.toNat_natCast, contains _ (by omega) _ _ k (by omega), Option.bind_some, wr1 h (by omega), h1 k (by omega)]
          cases (l.take j).any (isDep d.f0 d.f1) <;> rfl
    · obtain ⟨m, rfl⟩ : ∃ m, k = m + j + 1 + 2 := ⟨k - j - 3, by omega⟩
      rw [E2, musterref20_Right.j1]
      cases b with
      | true => rfl
      | false =>
        simp only [Bool.false_eq_true, ↓reduceIte]
        rw [if_pos (by omega), if_pos (by omega), rdDep h, ← hd]
        by_cases c3 : d.f1 ≥ n
        · rw [if_pos c3, if_pos c3]
        · have h3 := refTwice l n hl j h j 0 m (by omega)
          rw [List.drop_zero, ← hd] at h3
          rw [if_neg c3, if_neg c3, show (0 : Int) = ((0 : Nat) : Int) from rfl, h3]
          have h4 := h2 m (by omega)
          rw [show ((j : Int) + 1) = ((j + 1 : Nat) : Int) from rfl, h4]
          cases (l.take j).any (isDep d.f0 d.f1) <;> rfl
theorem right_same (l : List S104) (n : Int) : ∃ r, (∃ K, ∀ k, K ≤ k → deps_Right.f k l n = some r) ∧ (∃ K, ∀ k, K ≤ k → musterref20_Right.f k l n = some r) := by
  by_cases h : (l.length : Int) > 4
  · exact ⟨3, ⟨0, fun k _ => by unfold deps_Right.f; rw [if_pos h]⟩, ⟨0, fun k _ => by unfold musterref20_Right.f; rw [if_pos h]⟩⟩
  · obtain ⟨r, ⟨K1, h1⟩, ⟨K2, h2⟩⟩ := right_l0 l n (by omega) l.length 0 (by omega)
    exact ⟨r, ⟨K1, fun k hk => by unfold deps_Right.f; rw [if_neg h]; exact h1 k hk⟩, ⟨K2, fun k hk => by unfold musterref20_Right.f; rw [if_neg h]; exact h2 k hk⟩⟩

theorem find_l0 (l : List S43) (hl : l.length < 9000000000000000000) (id : Int) : ∀ (k j : Nat), j ≤ l.length → l.length - j < k → (∀ i (hi : i < j) (h : i < l.length), isId id l[i] = false) →
    musterref18_Find.l0 k l id j = some (if l.any (isId id) = true then (idxOf l (isId id), true) else (0, false)) := by
  intro k
  induction k with
  | zero => intro j _ h; omega
  | succ k ih =>
    intro j hj hk hn
    unfold musterref18_Find.l0
    by_cases h : j < l.length
    · rw [if_pos (by omega), if_pos (by omega), rdJob h, wr1 h (by omega)]
      by_cases he : l[j].f0 = id
      · have hp : isId id l[j] = true := decide_eq_true he
        rw [if_pos he, if_pos (List.any_eq_true.2 ⟨l[j], List.getElem_mem h, hp⟩), idxOf_at h (fun i hi => hn i hi (by omega)) hp]
      · rw [if_neg he]
        refine ih (j + 1) (by omega) (by omega) (fun i hi h2 => ?_)
        rcases Nat.lt_succ_iff_lt_or_eq.1 hi with h3 | rfl
        · exact hn i h3 h2
        · exact decide_eq_false he
    · rw [if_neg (by omega), if_neg]
      intro ha
      obtain ⟨x, hx, hp⟩ := List.any_eq_true.1 ha
      obtain ⟨i, hi, rfl⟩ := List.mem_iff_getElem.1 hx
      rw [hn i (by omega) hi] at hp
      cases hp
theorem refOver (s : Int) : musterref18_Over.f s = some (over s) := by
  unfold musterref18_Over.f over
  by_cases h1 : s ≥ 3 <;> by_cases h2 : s ≤ 8 <;> simp [h1, h2] <;> omega
theorem settled (jobs : List S43) (hl : jobs.length < 9000000000000000000) (d0 d1 : Int) (k : Nat) (hk : jobs.length < k) : musterref20_settled.f k d0 d1 jobs = some (verdict jobs d0 d1) := by
  obtain ⟨k, rfl⟩ : ∃ m, k = m + 1 := ⟨k - 1, by omega⟩
  unfold musterref20_settled.f musterref18_Find.f
  have hf := find_l0 jobs hl d1 (k + 1) 0 (Nat.zero_le _) (by omega) (fun i hi => absurd hi (Nat.not_lt_zero _))
  rw [show (0 : Int) = ((0 : Nat) : Int) from rfl, hf, Option.bind_some]
  have hj : ∀ i, musterref20_settled.j0 (k + 1) jobs i true d0 d1 = some 2 := fun i => by unfold musterref20_settled.j0; rfl
  unfold verdict
  cases ha : jobs.any (isId d1) with
  | false => simp [hj]
  | true =>
    obtain ⟨j, hj1, hj2⟩ := idxOf_some ha
    have hs : stateAt jobs d1 = jobs[j].f4 := by unfold stateAt; rw [hj2, rdJob hj1]
    simp only [↓reduceIte]
    by_cases h1 : d0 < 1
    · simp [h1, hj]
    by_cases h2 : d0 > 3
    · simp [h1, h2, hj]
    · rw [if_neg h1, decide_eq_false h2, hj2]
      unfold musterref20_settled.j0
      simp only [Bool.false_eq_true, ↓reduceIte]
      rw [if_pos (by omega), if_pos (by omega), rdJob hj1, refOver, Option.bind_some, ← hs, if_neg (show ¬ (true = false ∨ d0 < 1 ∨ 3 < d0) by rintro (h | h | h); cases h; omega; omega)]
      generalize stateAt jobs d1 = s
      cases over s with
      | false => rfl
      | true =>
        have hd : d0 = 1 ∨ d0 = 2 ∨ d0 = 3 := by omega
        rcases hd with rfl | rfl | rfl <;> by_cases h3 : s = 3 <;> simp [h3]
theorem refHolds_l0 (jobs : List S43) (hj : jobs.length < 9000000000000000000) (l : List S104) (hl : l.length < 9000000000000000000) : ∀ (k j : Nat), j ≤ l.length → l.length - j + jobs.length + 1 < k → musterref20_Holds.l0 k l jobs j = some (!((l.drop j).any fun d => decide (verdict jobs d.f0 d.f1 ≠ 1))) := by
  intro k
  induction k with
  | zero => intro j _ h; omega
  | succ k ih =>
    intro j hj1 hk
    unfold musterref20_Holds.l0
    by_cases h : j < l.length
    · rw [if_pos (by omega), if_pos (by omega), rdDep h, wr1 h (by omega), settled jobs hj _ _ k (by omega), Option.bind_some, List.drop_eq_getElem_cons h, List.any_cons]
      by_cases hv : verdict jobs l[j].f0 l[j].f1 = 1
      · rw [if_pos hv, ih (j + 1) (by omega) (by omega), hv]
        rfl
      · rw [if_neg hv, decide_eq_true hv]
        rfl
    · rw [if_neg (by omega), List.drop_of_length_le (by omega)]
      rfl
theorem refHolds (jobs : List S43) (hj : jobs.length < 9000000000000000000) (l : List S104) (hl : l.length < 9000000000000000000) (k : Nat) (hk : l.length + jobs.length + 1 < k) : musterref20_Holds.f k l jobs = some (depsHolds l jobs) := refHolds_l0 jobs hj l hl k 0 (Nat.zero_le _) (by omega)
theorem refNever_l0 (jobs : List S43) (hj : jobs.length < 9000000000000000000) (l : List S104) (hl : l.length < 9000000000000000000) : ∀ (k j : Nat), j ≤ l.length → l.length - j + jobs.length + 1 < k → musterref20_Never.l0 k l jobs j = some ((l.drop j).any fun d => decide (verdict jobs d.f0 d.f1 = 2)) := by
  intro k
  induction k with
  | zero => intro j _ h; omega
  | succ k ih =>
    intro j hj1 hk
    unfold musterref20_Never.l0
    by_cases h : j < l.length
    · rw [if_pos (by omega), if_pos (by omega), rdDep h, wr1 h (by omega), settled jobs hj _ _ k (by omega), Option.bind_some, List.drop_eq_getElem_cons h, List.any_cons]
      by_cases hv : verdict jobs l[j].f0 l[j].f1 = 2
      · rw [if_pos hv, hv]
        rfl
      · rw [if_neg hv, ih (j + 1) (by omega) (by omega), decide_eq_false hv]
        rfl
    · rw [if_neg (by omega), List.drop_of_length_le (by omega)]
      rfl
theorem refNever (jobs : List S43) (hj : jobs.length < 9000000000000000000) (l : List S104) (hl : l.length < 9000000000000000000) (k : Nat) (hk : l.length + jobs.length + 1 < k) : musterref20_Never.f k l jobs = some (depsNever l jobs) := refNever_l0 jobs hj l hl k 0 (Nat.zero_le _) (by omega)
end Go.Proofs.Ythcikldhlohjbaa.PD
