/- What holds keeps holding, what never holds never does: the plain law of DepsSettle. -/
import Derived.Test.YthcikldhlohjbaaSDepsC
set_option linter.unusedVariables false
set_option linter.unusedSimpArgs false
namespace Go.Proofs.Ythcikldhlohjbaa.PS
open Go.RowKit Go.Proofs.YthcikldhlohjbaaW.PrintWords Go.Proofs.YthcikldhlohjbaaW.PrintLast Go.Proofs.YthcikldhlohjbaaW.PrintMore
/-- A job that goes on keeps its id; it was not over. -/
structure Goes (js : List S43) (k : Nat) (y : S43) : Prop where
  lt : k < js.length
  id : y.f0 = (js[k]'lt).f0
  open_ : over (js[k]'lt).f4 = false
theorem goes_any {js : List S43} {k : Nat} {y : S43} (G : Goes js k y) (id : Int) : (js.set k y).any (isId id) = js.any (isId id) ∧ (js.set k y).findIdx (isId id) = js.findIdx (isId id) := by
  have hm : (js.set k y).map (·.f0) = js.map (·.f0) := by
    rw [List.map_set, G.id]
    apply List.ext_getElem
    · simp
    · intro j h1 h2
      rw [List.getElem_set]
      split
      · rename_i h
        subst h
        simp
      · rfl
  have e1 : ∀ l : List S43, l.any (isId id) = (l.map (·.f0)).any (fun i => decide (i = id)) := fun l => by rw [List.any_map]; rfl
  have e2 : ∀ l : List S43, l.findIdx (isId id) = (l.map (·.f0)).findIdx (fun i => decide (i = id)) := fun l => by rw [List.findIdx_map]; rfl
  rw [e1, e1, e2, e2, hm]
  exact ⟨rfl, rfl⟩
theorem goes_idx {js : List S43} {k : Nat} {y : S43} (G : Goes js k y) (id : Int) : idxOf (js.set k y) (isId id) = idxOf js (isId id) := by
  unfold idxOf
  rw [(goes_any G id).1, (goes_any G id).2]
theorem goes_state {js : List S43} {k : Nat} {y : S43} (G : Goes js k y) (id : Int) (ho : over (stateAt js id) = true) (ha : js.any (isId id) = true) : stateAt (js.set k y) id = stateAt js id := by
  unfold stateAt at ho ⊢
  rw [goes_idx G id]
  unfold idxOf at ho ⊢
  rw [if_pos ha] at ho ⊢
  have hk := G.lt
  unfold rd_T43 at ho ⊢
  rw [Int.toNat_natCast] at ho ⊢
  by_cases h : k = js.findIdx (isId id)
  · subst h
    rw [List.getD_eq_getElem?_getD, List.getElem?_eq_getElem hk, Option.getD_some, G.open_] at ho
    cases ho
  · simp only [List.getD_eq_getElem?_getD, List.getElem?_set, h, if_false]
theorem goes_verdict {js : List S43} {k : Nat} {y : S43} (G : Goes js k y) (d0 d1 : Int) (h : verdict js d0 d1 ≠ 0) : verdict (js.set k y) d0 d1 = verdict js d0 d1 := by
  unfold verdict at h ⊢
  rw [(goes_any G d1).1]
  split
  · rfl
  · rename_i hn
    rw [if_neg hn] at h
    have ha : js.any (isId d1) = true := by
      cases hh : js.any (isId d1) with
      | true => rfl
      | false => exact absurd (by rw [hh]; simp) hn
    by_cases ho : over (stateAt js d1) = true
    · rw [goes_state G d1 ho ha]
    · rw [if_pos (by simpa using ho)] at h
      exact absurd rfl h
theorem goes_holds {js : List S43} {k : Nat} {y : S43} (G : Goes js k y) (l : List S104) (h : depsHolds l js = true) : depsHolds l (js.set k y) = true := by
  unfold depsHolds at h ⊢
  rw [Bool.not_eq_true', List.any_eq_false] at h ⊢
  intro d hd
  have h1 := h d hd
  have h2 : verdict js d.f0 d.f1 = 1 := by simpa using h1
  rw [goes_verdict G _ _ (by rw [h2]; decide), h2]
  decide
theorem goes_never {js : List S43} {k : Nat} {y : S43} (G : Goes js k y) (l : List S104) (h : depsNever l js = true) : depsNever l (js.set k y) = true := by
  unfold depsNever at h ⊢
  obtain ⟨d, hd, h1⟩ := List.any_eq_true.1 h
  have h2 := of_decide_eq_true h1
  exact List.any_eq_true.2 ⟨d, hd, decide_eq_true (by rw [goes_verdict G _ _ (by rw [h2]; decide), h2])⟩
theorem not_both (l : List S104) (js : List S43) (h : depsHolds l js = true) : depsNever l js = false := by
  unfold depsHolds at h
  unfold depsNever
  rw [Bool.not_eq_true', List.any_eq_false] at h
  rw [List.any_eq_false]
  intro d hd
  have h2 : verdict js d.f0 d.f1 = 1 := by simpa using h d hd
  rw [h2]
  decide
end Go.Proofs.Ythcikldhlohjbaa.PS
