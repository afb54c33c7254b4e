/- Nodes: copies, comparisons, the document's New, Fail, Rise. -/
import Derived.Test.YthcikldhlohjbaaPlainNodesB
set_option linter.unusedVariables false
set_option linter.unusedSimpArgs false
namespace Go.Proofs.Ythcikldhlohjbaa.PN
open Go.RowKit Go.Proofs.YthcikldhlohjbaaW.PrintWords Go.Proofs.YthcikldhlohjbaaW.PrintLast Go.Proofs.YthcikldhlohjbaaW.PrintMore Go.Proofs.Ythcikldhlohjbaa.EvK
theorem copyN_l0 (l : List S55) (hl : l.length ≤ 1048576) : ∀ d j, j + d = l.length → Ev (fun k => musterkit_CopyNodes.l0 k l (l.take j) (j : Int)) l := by
  intro d
  induction d with
  | zero =>
    intro j hj
    refine Ev.stp (fun k => by rw [musterkit_CopyNodes.l0]) ?_
    exact Ev.neg (by omega) (Ev.one (List.take_of_length_le (by omega)))
  | succ d ih =>
    intro j hj
    have hlt : j < l.length := by omega
    refine Ev.stp (fun k => by rw [musterkit_CopyNodes.l0]) ?_
    refine Ev.pos (by omega) (Ev.pos (by omega) (Ev.pos (by rw [List.length_take]; omega) ?_))
    rw [rdN l j hlt, wr1 (by omega)]
    have h := ih (j + 1) (by omega)
    rw [← take_next l j hlt] at h
    exact h
theorem copyN (l : List S55) (hl : l.length ≤ 1048576) : Ev (fun k => musterkit_CopyNodes.f k l) l := copyN_l0 l hl l.length 0 (by omega)
theorem refRight_l0 (l : List S55) (hl : l.length ≤ 1048576) : ∀ d j, j + d = l.length → (∀ i (hi : i < l.length), i < j → wrongN l[i] = false) → Ev (fun k => musterref13_Right.l0 k l (j : Int)) (nodesRight l) := by
  intro d
  induction d with
  | zero =>
    intro j hj hb
    have ha : l.any wrongN = false := List.any_eq_false.2 fun x hx => by
      obtain ⟨i, hi, rfl⟩ := List.mem_iff_getElem.1 hx
      rw [hb i hi (by omega)]; simp
    refine Ev.stp (fun k => by rw [musterref13_Right.l0]) ?_
    refine Ev.neg (by omega) ?_
    unfold nodesRight
    rw [ha]
    by_cases h1 : (l.length : Int) ≥ 1
    · refine Ev.pos h1 (Ev.one ?_)
      rw [Bool.eq_iff_iff]; simp; omega
    · refine Ev.neg h1 (Ev.one ?_)
      rw [Bool.eq_iff_iff]; simp; omega
  | succ d ih =>
    intro j hj hb
    have hlt : j < l.length := by omega
    refine Ev.stp (fun k => by rw [musterref13_Right.l0]) ?_
    refine Ev.pos (by omega) (Ev.pos (by omega) ?_)
    rw [rdN l j hlt, wr1 (by omega)]
    by_cases hw : wrongN l[j] = true
    · have hf : nodesRight l = false := by
        unfold nodesRight
        rw [List.any_eq_true.2 ⟨_, List.getElem_mem hlt, hw⟩]
        simp
      rw [hf]
      unfold wrongN at hw
      simp only [decide_eq_true_eq] at hw
      by_cases h1 : l[j].f0 < 1
      · exact Ev.pos h1 (Ev.one rfl)
      refine Ev.neg h1 ?_
      by_cases h2 : l[j].f0 > 64
      · exact Ev.pos h2 (Ev.one rfl)
      refine Ev.neg h2 ?_
      by_cases h3 : l[j].f2 < 1
      · exact Ev.pos h3 (Ev.one rfl)
      refine Ev.neg h3 ?_
      exact Ev.pos (by omega) (Ev.one rfl)
    · have hw' : wrongN l[j] = false := by simpa using hw
      have hw2 := hw'
      unfold wrongN at hw2
      simp only [decide_eq_false_iff_not] at hw2
      refine Ev.neg (by omega) (Ev.neg (by omega) (Ev.neg (by omega) (Ev.neg (by omega) ?_)))
      refine ih (j + 1) (by omega) fun i hi hij => ?_
      rcases Nat.lt_succ_iff_lt_or_eq.1 hij with h | h
      · exact hb i hi h
      · subst h; exact hw'
theorem refRight (l : List S55) (hl : l.length ≤ 1048576) : Ev (fun k => musterref13_Right.f k l) (nodesRight l) := refRight_l0 l hl l.length 0 (by omega) (fun i _ h => absurd h (Nat.not_lt_zero _))
theorem refNew_l0 (cs : List Int) (hc : cs.length ≤ 1048576) : ∀ d j, j + d = cs.length → Ev (fun k => musterref13_New.l0 k cs ((cs.map mkN).take j) (j : Int)) (newN cs) := by
  intro d
  induction d with
  | zero =>
    intro j hj
    refine Ev.stp (fun k => by rw [musterref13_New.l0]) ?_
    refine Ev.neg (by omega) ?_
    have ht : (cs.map mkN).take j = cs.map mkN := List.take_of_length_le (by simp; omega)
    rw [ht]
    refine Ev.bnd (refRight _ (by simpa using hc)) ?_
    unfold newN
    by_cases h : nodesRight (cs.map mkN) = true
    · refine Ev.pos h (Ev.one ?_)
      rw [if_pos h]
    · refine Ev.neg h (Ev.one ?_)
      rw [if_neg h]
  | succ d ih =>
    intro j hj
    have hlt : j < cs.length := by omega
    refine Ev.stp (fun k => by rw [musterref13_New.l0]) ?_
    refine Ev.pos (by omega) (Ev.pos (by omega) (Ev.pos (by simp; omega) ?_))
    have h1 := take_next (cs.map mkN) j (by simpa using hlt)
    rw [List.getElem_map] at h1
    rw [rd_nat cs j hlt, wr1 (by omega)]
    have h2 : (⟨cs[j], true, 1⟩ : S55) = mkN cs[j] := rfl
    rw [h2, h1]
    exact ih (j + 1) (by omega)
theorem refNew (cs : List Int) (hc : cs.length ≤ 1048576) : Ev (fun k => musterref13_New.f k cs) (newN cs) := refNew_l0 cs hc cs.length 0 (by omega)
theorem at_in {l : List S55} {i : Int} (hr : nodesRight l = true) (h0 : 0 ≤ i) (h1 : i < l.length) : (nodesAt l i).2 = 0 := by unfold nodesAt; rw [if_pos ⟨h0, h1, hr⟩]
theorem at_out {l : List S55} {i : Int} (h : ¬ (0 ≤ i ∧ i < l.length ∧ nodesRight l = true)) : ¬ (nodesAt l i).2 = 0 := by unfold nodesAt; rw [if_neg h]; simp
theorem refFail (l : List S55) (hl : l.length ≤ 1048576) (i : Int) : Ev (fun k => musterref13_Fail.f k l i) (failN l i) := by
  have hout : ∀ b, b = true → ¬ (0 ≤ i ∧ i < l.length ∧ nodesRight l = true) → Ev (fun k => musterref13_Fail.j0 k l i b) (failN l i) := by
    rintro _ rfl h
    refine Ev.stp (fun k => by rw [musterref13_Fail.j0]) ?_
    refine Ev.pos rfl (Ev.one ?_)
    unfold failN
    rw [if_neg (at_out h)]
  unfold musterref13_Fail.f
  refine Ev.bnd (refRight l hl) ?_
  by_cases hr : nodesRight l = true
  · refine Ev.pos hr ?_
    by_cases h0 : i < 0
    · exact Ev.pos h0 (hout _ rfl (by omega))
    · refine Ev.neg h0 ?_
      by_cases h1 : i ≥ (l.length : Int)
      · exact hout _ (decide_eq_true h1) (by omega)
      · rw [decide_eq_false h1]
        refine Ev.stp (fun k => by rw [musterref13_Fail.j0]) ?_
        refine Ev.neg (by decide) (Ev.pos (by omega) (Ev.pos (by omega) ?_))
        unfold failN
        rw [if_pos (at_in hr (by omega) (by omega))]
        by_cases hf : (rd_T55 l i).f1 = true
        · rw [if_pos hf]
          exact Ev.pos hf (Ev.bnd (copyN l hl) (Ev.pos (by omega) (Ev.one rfl)))
        · rw [if_neg hf]
          exact Ev.neg hf (Ev.one rfl)
  · exact Ev.neg hr (hout _ rfl (fun h => hr h.2.2))
theorem refRise (l : List S55) (hl : l.length ≤ 1048576) (i : Int) : Ev (fun k => musterref13_Rise.f k l i) (riseN l i) := by
  have hout : ∀ b, b = true → ¬ (0 ≤ i ∧ i < l.length ∧ nodesRight l = true) → Ev (fun k => musterref13_Rise.j0 k l i b) (riseN l i) := by
    rintro _ rfl h
    refine Ev.stp (fun k => by rw [musterref13_Rise.j0]) ?_
    refine Ev.pos rfl (Ev.one ?_)
    unfold riseN
    rw [if_neg (at_out h)]
  unfold musterref13_Rise.f
  refine Ev.bnd (refRight l hl) ?_
  by_cases hr : nodesRight l = true
  · refine Ev.pos hr ?_
    by_cases h0 : i < 0
    · exact Ev.pos h0 (hout _ rfl (by omega))
    · refine Ev.neg h0 ?_
      by_cases h1 : i ≥ (l.length : Int)
      · exact hout _ (decide_eq_true h1) (by omega)
      · rw [decide_eq_false h1]
        have hb := right_at hr (i := i) (by omega) (by omega)
        refine Ev.stp (fun k => by rw [musterref13_Rise.j0]) ?_
        refine Ev.neg (by decide) (Ev.pos (by omega) (Ev.pos (by omega) ?_))
        unfold riseN
        rw [if_pos (at_in hr (by omega) (by omega))]
        by_cases hf : (rd_T55 l i).f1 = true
        · rw [if_pos hf]
          exact Ev.pos hf (Ev.one rfl)
        · rw [if_neg hf]
          refine Ev.neg hf ?_
          by_cases h2 : (rd_T55 l i).f2 = 1073741824
          · rw [if_pos h2]
            exact Ev.pos h2 (Ev.one rfl)
          · rw [if_neg h2]
            refine Ev.neg h2 (Ev.bnd (copyN l hl) (Ev.pos (by omega) (Ev.sbnd (Ev.one ?_))))
            rw [rd_set l i _ (by omega) (by omega)]
            simp only [List.set_set]
            rw [wrI (by omega) (by omega)]
  · exact Ev.neg hr (hout _ rfl (fun h => hr h.2.2))
theorem sameN_l0 (l : List S55) (hl : l.length ≤ 1048576) : ∀ d j, j + d = l.length → Ev (fun k => musterkit_SameNodes.l0 k l l (j : Int)) true := by
  intro d
  induction d with
  | zero =>
    intro j hj
    refine Ev.stp (fun k => by rw [musterkit_SameNodes.l0]) ?_
    exact Ev.neg (by omega) (Ev.one rfl)
  | succ d ih =>
    intro j hj
    refine Ev.stp (fun k => by rw [musterkit_SameNodes.l0]) ?_
    refine Ev.pos (by omega) (Ev.pos (by omega) (Ev.pos (by omega) (Ev.neg (by simp) ?_)))
    rw [wr1 (by omega)]
    exact ih (j + 1) (by omega)
theorem sameN (l : List S55) (hl : l.length ≤ 1048576) : Ev (fun k => musterkit_SameNodes.f k l l) true := by
  unfold musterkit_SameNodes.f
  exact Ev.pos rfl (sameN_l0 l hl l.length 0 (by omega))
theorem set_mid {α : Type} (A B : List α) (b v : α) (j : Nat) (h : A.length = j) : (A ++ b :: B).set j v = (A ++ [v]) ++ B := by
  rw [List.set_append_right _ _ (by omega), h, Nat.sub_self, List.set_cons_zero, List.append_assoc]
  rfl
theorem cores_l0 (l : List S55) (hl : l.length ≤ 1048576) : ∀ d j, j + d = l.length → Ev (fun k => nodes_Cores.l0 k l ((l.map (·.f0)).take j ++ List.replicate d 0) (l.length : Int) (j : Int)) (l.map (·.f0)) := by
  intro d
  induction d with
  | zero =>
    intro j hj
    refine Ev.stp (fun k => by rw [nodes_Cores.l0]) ?_
    refine Ev.neg (by omega) (Ev.one ?_)
    rw [List.take_of_length_le (by simp; omega)]
    simp
  | succ d ih =>
    intro j hj
    have hlt : j < l.length := by omega
    have h := ih (j + 1) (by omega)
    rw [← take_next (l.map (·.f0)) j (by simpa using hlt), List.getElem_map] at h
    refine Ev.stp (fun k => by rw [nodes_Cores.l0]) ?_
    refine Ev.pos (by omega) (Ev.pos (by omega) (Ev.pos (by omega) (Ev.pos (by simp; omega) ?_)))
    rw [rdN l j hlt, wr1 (by omega), Int.toNat_natCast, List.replicate_succ, set_mid _ _ _ _ j (by simp; omega)]
    exact h
theorem coresN (l : List S55) (hl : l.length ≤ 1048576) : Ev (fun k => nodes_Cores.f k l) (l.map (·.f0)) := by
  unfold nodes_Cores.f
  refine Ev.pos (by omega) (Ev.pos (by omega) ?_)
  rw [Int.toNat_natCast]
  exact cores_l0 l hl l.length 0 (by omega)
theorem refCores_l0 (l : List S55) (hl : l.length ≤ 1048576) : ∀ d j, j + d = l.length → Ev (fun k => musterref13_Cores.l0 k l ((l.map (·.f0)).take j) (j : Int)) (l.map (·.f0)) := by
  intro d
  induction d with
  | zero =>
    intro j hj
    refine Ev.stp (fun k => by rw [musterref13_Cores.l0]) ?_
    refine Ev.neg (by omega) (Ev.one ?_)
    rw [List.take_of_length_le (by simp; omega)]
  | succ d ih =>
    intro j hj
    have hlt : j < l.length := by omega
    have h := ih (j + 1) (by omega)
    rw [← take_next (l.map (·.f0)) j (by simpa using hlt), List.getElem_map] at h
    refine Ev.stp (fun k => by rw [musterref13_Cores.l0]) ?_
    refine Ev.pos (by omega) (Ev.pos (by omega) (Ev.pos (by simp; omega) ?_))
    rw [rdN l j hlt, wr1 (by omega)]
    exact h
theorem refCores (l : List S55) (hl : l.length ≤ 1048576) : Ev (fun k => musterref13_Cores.f k l) (l.map (·.f0)) := refCores_l0 l hl l.length 0 (by omega)
theorem sameI_l0 (l : List Int) (hl : l.length ≤ 1048576) : ∀ d j, j + d = l.length → Ev (fun k => musterkit_SameInts.l0 k l l (j : Int)) true := by
  intro d
  induction d with
  | zero =>
    intro j hj
    refine Ev.stp (fun k => by rw [musterkit_SameInts.l0]) ?_
    exact Ev.neg (by omega) (Ev.one rfl)
  | succ d ih =>
    intro j hj
    refine Ev.stp (fun k => by rw [musterkit_SameInts.l0]) ?_
    refine Ev.pos (by omega) (Ev.pos (by omega) (Ev.pos (by omega) (Ev.pos rfl ?_)))
    rw [wr1 (by omega)]
    exact ih (j + 1) (by omega)
theorem sameI (l : List Int) (hl : l.length ≤ 1048576) : Ev (fun k => musterkit_SameInts.f k l l) true := by
  unfold musterkit_SameInts.f
  exact Ev.pos rfl (sameI_l0 l hl l.length 0 (by omega))
end Go.Proofs.Ythcikldhlohjbaa.PN
