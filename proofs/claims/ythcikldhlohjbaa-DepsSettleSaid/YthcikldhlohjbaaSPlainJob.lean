/- A job's rounds: what one turn does to a right job. -/
import Derived.Test.YthcikldhlohjbaaSJobW
set_option linter.unusedVariables false
set_option linter.unusedSimpArgs false
namespace Go.Proofs.Ythcikldhlohjbaa.PS.Jb
open Go.RowKit Go.Proofs.YthcikldhlohjbaaW.PrintWords Go.Proofs.YthcikldhlohjbaaW.PrintLast Go.Proofs.YthcikldhlohjbaaW.PrintMore Go.Proofs.Ythcikldhlohjbaa.Ones
theorem right_pend {x : S43} (h : rightJ x = true) (h4 : x.f4 = 1) : shapedJ x = true ∧ x.f8 = 0 ∧ x.f6 = 0 ∧ x.f9 = 0 ∧ x.f7 = 0 := by
  unfold rightJ rightS at h
  rw [if_pos h4, Bool.and_eq_true, Bool.and_eq_true] at h
  obtain ⟨h1, h2, h3⟩ := h
  have h5 := of_decide_eq_true h2
  exact ⟨h1, h5.1, h5.2.1, h5.2.2, of_decide_eq_true h3⟩
theorem right_runs {x : S43} (h : rightJ x = true) (h4 : x.f4 = 2) : shapedJ x = true ∧ ranJ x = true ∧ x.f7 = 0 ∧ x.f9 = 0 := by
  unfold rightJ rightS at h
  rw [if_neg (by omega), if_pos h4, Bool.and_eq_true, Bool.and_eq_true, Bool.and_eq_true] at h
  obtain ⟨h1, ⟨h2, h3⟩, h5⟩ := h
  exact ⟨h1, h2, of_decide_eq_true h3, of_decide_eq_true h5⟩
theorem begin_right {x : S43} {on now : Int} (h : rightJ x = true) (ho : ones on = x.f3.f4) (h5 : x.f5 ≤ now) (hm : now ≤ 1099511627776) (h4 : x.f4 = 1) : rightJ { x with f4 := 2, f6 := now, f8 := on } = true := by
  obtain ⟨p1, p2, p3, p4, p5⟩ := right_pend h h4
  have e1 : shapedJ { x with f4 := 2, f6 := now, f8 := on } = true := p1
  have e2 : ranJ { x with f4 := 2, f6 := now, f8 := on } = true := decide_eq_true ⟨ho, h5, hm⟩
  unfold rightJ rightS
  rw [e1, e2]
  show (true && (if (2 : Int) = 1 then _ else if (2 : Int) = 2 then true && decide (x.f7 = 0) && decide (x.f9 = 0) else _)) = true
  rw [if_neg (by decide), if_pos rfl, p4, p5]
  rfl
theorem finish_right {x : S43} {st ex now : Int} (h : rightJ x = true) (h1 : max x.f5 x.f6 ≤ now) (hm : now ≤ 1099511627776) (hs : st ∈ nextL x.f4) (hz : ones 0 = 0) :
    rightJ { x with f4 := st, f7 := now, f9 := if st = 4 then (if ex = 0 then 1 else ex) else x.f9 } = true := by
  unfold nextL at hs
  by_cases h4 : x.f4 = 1
  · rw [if_pos h4] at hs
    obtain ⟨p1, p2, p3, p4, p5⟩ := right_pend h h4
    have c : st = 6 ∨ st = 8 := by simpa using hs
    have e1 : shapedJ { x with f4 := st, f7 := now, f9 := if st = 4 then (if ex = 0 then 1 else ex) else x.f9 } = true := p1
    have e3 : overJ { x with f4 := st, f7 := now, f9 := if st = 4 then (if ex = 0 then 1 else ex) else x.f9 } = true := decide_eq_true ⟨show x.f5 ≤ now by omega, hm⟩
    have e2 : waitedJ { x with f4 := st, f7 := now, f9 := if st = 4 then (if ex = 0 then 1 else ex) else x.f9 } = true := decide_eq_true ⟨p2, p3, show (if st = 4 then (if ex = 0 then 1 else ex) else x.f9) = 0 by rw [if_neg (by omega), p4]⟩
    unfold rightJ rightS
    rw [e1, e2, e3]
    rcases c with rfl | rfl
    · show (true && (if (6 : Int) = 1 then _ else if (6 : Int) = 2 then _ else if (6 : Int) = 8 then _ else if (6 : Int) = 6 ∧ x.f8 = 0 then true && true else _)) = true
      rw [if_neg (by decide), if_neg (by decide), if_neg (by decide), if_pos ⟨rfl, p2⟩]
      rfl
    · show (true && (if (8 : Int) = 1 then _ else if (8 : Int) = 2 then _ else if (8 : Int) = 8 then true && true else _)) = true
      rw [if_neg (by decide), if_neg (by decide), if_pos rfl]
      rfl
  · rw [if_neg h4] at hs
    by_cases h42 : x.f4 = 2
    · rw [if_pos h42] at hs
      obtain ⟨p1, p2, p3, p4⟩ := right_runs h h42
      have c : st = 3 ∨ st = 4 ∨ st = 5 ∨ st = 6 ∨ st = 7 := by simpa using hs
      have p1' := of_decide_eq_true p1
      have p2' := of_decide_eq_true p2
      have hon : x.f8 ≠ 0 := fun e => by rw [e, hz] at p2'; omega
      have e1 : shapedJ { x with f4 := st, f7 := now, f9 := if st = 4 then (if ex = 0 then 1 else ex) else x.f9 } = true := p1
      have e2 : ranJ { x with f4 := st, f7 := now, f9 := if st = 4 then (if ex = 0 then 1 else ex) else x.f9 } = true := p2
      have e3 : overJ { x with f4 := st, f7 := now, f9 := if st = 4 then (if ex = 0 then 1 else ex) else x.f9 } = true := decide_eq_true ⟨show x.f5 ≤ now by omega, hm⟩
      have e4 : decide (x.f6 ≤ now) = true := decide_eq_true (by omega)
      unfold rightJ rightS
      rw [e1, e2, e3]
      show (true && (if st = 1 then _ else if st = 2 then _ else if st = 8 then _ else if st = 6 ∧ x.f8 = 0 then _ else if st = 6 ∨ st = 3 ∨ st = 5 ∨ st = 7 then true && true && decide (x.f6 ≤ now) && decide ((if st = 4 then (if ex = 0 then 1 else ex) else x.f9) = 0) else if st = 4 then true && true && decide (x.f6 ≤ now) && decide ((if st = 4 then (if ex = 0 then 1 else ex) else x.f9) ≠ 0) else false)) = true
      rw [if_neg (by omega), if_neg (by omega), if_neg (by omega), if_neg (fun hh => hon hh.2), e4]
      by_cases c4 : st = 4
      · rw [if_neg (by omega), if_pos c4, if_pos c4]
        by_cases ce : ex = 0
        · rw [if_pos ce]; rfl
        · rw [if_neg ce, decide_eq_true ce]; rfl
      · rw [if_pos (by omega), if_neg c4, p4]
        rfl
    · rw [if_neg h42] at hs
      cases hs
theorem begin_zero {x : S43} {on now : Int} (h : (beginJ x on now).2 ≠ 0) : (beginJ x on now).1 = z43 := by
  unfold beginJ at h ⊢
  split
  · rename_i h1
    rw [if_pos h1] at h
    split
    · rename_i h2
      rw [if_pos h2] at h
      exact absurd rfl h
    · rfl
  · rfl
theorem finish_zero {x : S43} {st ex now : Int} (h : (finishJ x st ex now).2 ≠ 0) : (finishJ x st ex now).1 = z43 := by
  unfold finishJ at h ⊢
  split
  · rename_i h1
    rw [if_pos h1] at h
    split
    · rename_i h2
      rw [if_pos h2] at h
      exact absurd rfl h
    · rfl
  · rfl
theorem begin_ok {x : S43} {on now : Int} (h : (beginJ x on now).2 = 0) : (beginJ x on now).1 = { x with f4 := 2, f6 := now, f8 := on } ∧ rightJ x = true ∧ ones on = x.f3.f4 ∧ x.f5 ≤ now ∧ now ≤ 1099511627776 ∧ x.f4 = 1 := by
  unfold beginJ at h ⊢
  by_cases h1 : rightJ x = true ∧ ones on = x.f3.f4 ∧ x.f5 ≤ now ∧ now ≤ 1099511627776
  · rw [if_pos h1] at h ⊢
    by_cases h2 : x.f4 = 1
    · rw [if_pos h2]
      exact ⟨rfl, h1.1, h1.2.1, h1.2.2.1, h1.2.2.2, h2⟩
    · rw [if_neg h2] at h
      cases h
  · rw [if_neg h1] at h
    cases h
theorem finish_ok {x : S43} {st ex now : Int} (h : (finishJ x st ex now).2 = 0) : (finishJ x st ex now).1 = { x with f4 := st, f7 := now, f9 := if st = 4 then (if ex = 0 then 1 else ex) else x.f9 } ∧ rightJ x = true ∧ max x.f5 x.f6 ≤ now ∧ now ≤ 1099511627776 ∧ st ∈ nextL x.f4 ∧ (x.f4 = 1 ∨ x.f4 = 2) := by
  unfold finishJ at h ⊢
  by_cases h1 : rightJ x = true ∧ (max x.f5 x.f6 ≤ now ∨ overS x.f4 = true) ∧ x.f5 ≤ now ∧ now ≤ 1099511627776
  · rw [if_pos h1] at h ⊢
    by_cases h2 : st ∈ nextL x.f4
    · rw [if_pos h2]
      have h3 : x.f4 = 1 ∨ x.f4 = 2 := by
        unfold nextL at h2
        split at h2
        · left; assumption
        · split at h2
          · right; assumption
          · cases h2
      refine ⟨rfl, h1.1, ?_, h1.2.2.2, h2, h3⟩
      rcases h1.2.1 with g | g
      · exact g
      · have := of_decide_eq_true g
        omega
    · rw [if_neg h2] at h
      cases h
  · rw [if_neg h1] at h
    cases h
theorem next_over {s st : Int} (h : st ∈ nextL s) : overS st = true := by
  unfold nextL at h
  unfold overS
  split at h
  · have c : st = 6 ∨ st = 8 := by simpa using h
    exact decide_eq_true (by omega)
  · split at h
    · have c : st = 3 ∨ st = 4 ∨ st = 5 ∨ st = 6 ∨ st = 7 := by simpa using h
      exact decide_eq_true (by omega)
    · cases h
end Go.Proofs.Ythcikldhlohjbaa.PS.Jb
