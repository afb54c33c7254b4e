/- Nodes: what New, Fail, Rise tell; the chapter's examples. -/
import Derived.Test.YthcikldhlohjbaaPNx9
import Derived.Test.YthcikldhlohjbaaEv
set_option linter.unusedVariables false
set_option linter.unusedSimpArgs false
namespace Go.Proofs.Ythcikldhlohjbaa.PN
open Go.RowKit Go.Proofs.YthcikldhlohjbaaW.PrintWords Go.Proofs.YthcikldhlohjbaaW.PrintLast Go.Proofs.YthcikldhlohjbaaW.PrintMore Go.Proofs.Ythcikldhlohjbaa.EvK
theorem rdN (l : List S55) (j : Nat) (h : j < l.length) : rd_T55 l (j : Int) = l[j] := by unfold rd_T55; simp [List.getD, h]
def mkN (c : Int) : S55 := ⟨c, true, 1⟩
def newN (cs : List Int) : List S55 × Int := if nodesRight (cs.map mkN) = true then (cs.map mkN, 0) else ([], 2)
theorem new_l0 (cs : List Int) (hc : cs.length ≤ 1048576) : ∀ d j, j + d = cs.length → Ev (fun k => nodes_New.l0 k ((cs.map mkN).take j) cs (cs.length : Int) (j : Int)) (newN cs) := by
  intro d
  induction d with
  | zero =>
    intro j hj
    refine Ev.stp (fun k => by rw [nodes_New.l0]) ?_
    refine Ev.neg (by omega) ?_
    have ht : (cs.map mkN).take j = cs.map mkN := List.take_of_length_le (by simp; omega)
    rw [ht]
    refine Ev.bnd (Ev.const rfl) ?_
    unfold newN
    by_cases h : nodesRight (cs.map mkN) = true
    · refine Ev.pos h (Ev.one ?_)
      rw [if_pos h]
    · refine Ev.neg h (Ev.one ?_)
      rw [if_neg h]
  | succ d ih =>
    intro j hj
    have hlt : j < cs.length := by omega
    refine Ev.stp (fun k => by rw [nodes_New.l0]) ?_
    refine Ev.pos (by omega) (Ev.pos (by omega) (Ev.pos (by omega) (Ev.pos (by simp; omega) ?_)))
    have h1 := take_next (cs.map mkN) j (by simpa using hlt)
    rw [List.getElem_map] at h1
    rw [rd_nat cs j hlt, wr1 (by omega)]
    have h2 : (⟨cs[j], true, 1⟩ : S55) = mkN cs[j] := rfl
    rw [h2, h1]
    exact ih (j + 1) (by omega)
theorem new_ev (cs : List Int) (hc : cs.length ≤ 1048576) : Ev (fun k => nodes_New.f k cs) (newN cs) := by
  have := new_l0 cs hc cs.length 0 (by omega)
  exact this
def failN (l : List S55) (i : Int) : List S55 × Int :=
  if (nodesAt l i).2 = 0 then (if (rd_T55 l i).f1 = true then (l.set i.toNat ⟨(rd_T55 l i).f0, false, (rd_T55 l i).f2⟩, 0) else ([], 180)) else ([], 2)
def riseN (l : List S55) (i : Int) : List S55 × Int :=
  if (nodesAt l i).2 = 0 then (if (rd_T55 l i).f1 = true then ([], 180) else if (rd_T55 l i).f2 = 1073741824 then ([], 120) else (l.set i.toNat ⟨(rd_T55 l i).f0, true, (rd_T55 l i).f2 + 1⟩, 0)) else ([], 2)
theorem at_0 {l : List S55} {i : Int} (h : (nodesAt l i).2 = 0) : nodesAt l i = (l, 0) ∧ 0 ≤ i ∧ i < l.length ∧ nodesRight l = true := by
  unfold nodesAt at h ⊢
  split at h
  · rename_i hh
    rw [if_pos hh]
    exact ⟨rfl, hh⟩
  · cases h
theorem at_2 {l : List S55} {i : Int} (h : ¬ (nodesAt l i).2 = 0) : nodesAt l i = ([], 2) := by
  unfold nodesAt at h ⊢
  split at h
  · exact absurd rfl h
  · rename_i hh
    rw [if_neg hh]
theorem right_at {l : List S55} (h : nodesRight l = true) {i : Int} (h0 : 0 ≤ i) (h1 : i < l.length) : (rd_T55 l i).f2 ≤ 1073741824 ∧ 1 ≤ (rd_T55 l i).f2 ∧ 1 ≤ (rd_T55 l i).f0 ∧ (rd_T55 l i).f0 ≤ 64 := by
  obtain ⟨j, rfl⟩ := Int.eq_ofNat_of_zero_le h0
  have hj : j < l.length := by omega
  rw [rdN l j hj]
  unfold nodesRight at h
  simp only [Bool.and_eq_true, Bool.not_eq_true'] at h
  have h2 := List.any_eq_false.1 h.2 l[j] (List.getElem_mem hj)
  unfold wrongN at h2
  simp only [decide_eq_true_eq] at h2
  omega
theorem rd_set (l : List S55) (i : Int) (x : S55) (h0 : 0 ≤ i) (h1 : i < l.length) : rd_T55 (l.set i.toNat x) i = x := by
  obtain ⟨j, rfl⟩ := Int.eq_ofNat_of_zero_le h0
  rw [rdN _ j (by simp; omega)]
  simp
theorem fail_f (l : List S55) (i : Int) : nodes_Fail.f l i = some (failN l i) := by
  unfold nodes_Fail.f failN
  rw [nodes_at.f, Option.bind_some]
  by_cases h : (nodesAt l i).2 = 0
  · obtain ⟨e, h0, h1, h2⟩ := at_0 h
    rw [if_pos h, if_pos h, e, if_pos h0, if_pos h1]
    simp only
    split <;> rfl
  · rw [if_neg h, if_neg h, at_2 h]
theorem rise_f (l : List S55) (i : Int) : nodes_Rise.f l i = some (riseN l i) := by
  unfold nodes_Rise.f riseN
  rw [nodes_at.f, Option.bind_some]
  by_cases h : (nodesAt l i).2 = 0
  · obtain ⟨e, h0, h1, h2⟩ := at_0 h
    have hb := right_at h2 h0 h1
    rw [if_pos h, if_pos h, e, if_pos h0, if_pos h1]
    simp only
    by_cases c1 : (rd_T55 l i).f1 = true
    · rw [if_pos c1, if_pos c1]
    · rw [if_neg c1, if_neg c1]
      by_cases c2 : (rd_T55 l i).f2 = 1073741824
      · rw [if_pos c2, if_pos c2]
      · rw [if_neg c2, if_neg c2, Option.bind_some, rd_set l i _ h0 h1]
        simp only [List.set_set]
        rw [wrI (by omega) (by omega)]
  · rw [if_neg h, if_neg h, at_2 h]
theorem awake_ev : Ev (fun k => musterlaw13_awake.f k) true := Ev.of (fun k => musterlaw13_awake.mono k) (k := 12) (by decide +kernel)
end Go.Proofs.Ythcikldhlohjbaa.PN
