/- Changing one account's limit changes nothing else. -/
import Derived.Test.YthcikldhlohjbaaPTx27
import Derived.Test.YthcikldhlohjbaaPTOpenTreeLimits
import Derived.Test.YthcikldhlohjbaaPlainTreeB
set_option linter.unusedVariables false
set_option linter.unusedSimpArgs false
namespace Go.Proofs.Ythcikldhlohjbaa.Pure
open Go.RowKit Go.Proofs.YthcikldhlohjbaaW.PrintWords Go.Proofs.YthcikldhlohjbaaW.PrintLast Go.Proofs.YthcikldhlohjbaaW.PrintMore Go.Proofs.Ythcikldhlohjbaa.Gen Go.Proofs.Ythcikldhlohjbaa.EvK Go.Proofs.Ythcikldhlohjbaa.PT Go.Proofs.Ythcikldhlohjbaa.PT.TreeLimitsOpen
theorem find_names (l : List S94) (s : ByteArray) : findA l s = (max (idxOf (l.map (·.f0)) (fun x => x.toList == s.toList)) 0, (l.map (·.f0)).any (fun x => x.toList == s.toList)) := by
  unfold findA idxOf
  have h1 : l.any (isName s) = (l.map (·.f0)).any (fun x => x.toList == s.toList) := by rw [List.any_map]; rfl
  have h2 : l.findIdx (isName s) = (l.map (·.f0)).findIdx (fun x => x.toList == s.toList) := by rw [List.findIdx_map]; rfl
  rw [h1, h2]
theorem find_like {l m : List S94} (h : m.map (·.f0) = l.map (·.f0)) (s : ByteArray) : findA m s = findA l s := by rw [find_names, find_names, h]
theorem rd_f0 (l : List S94) (i : Int) : (rd_T94 l i).f0 = (l.map (·.f0)).getD i.toNat z94.f0 := by
  unfold rd_T94
  simp only [List.getD_eq_getElem?_getD, List.getElem?_map]
  cases l[i.toNat]? <;> rfl
theorem rd_f1 (l : List S94) (i : Int) : (rd_T94 l i).f1 = (l.map (·.f1)).getD i.toNat z94.f1 := by
  unfold rd_T94
  simp only [List.getD_eq_getElem?_getD, List.getElem?_map]
  cases l[i.toNat]? <;> rfl
theorem rest_like {l m : List S94} (h0 : m.map (·.f0) = l.map (·.f0)) (h1 : m.map (·.f1) = l.map (·.f1)) : ∀ f i, restA m f i = restA l f i
  | 0, _ => rfl
  | f + 1, i => by
    have e1 : ∀ i, (rd_T94 m i).f1 = (rd_T94 l i).f1 := fun i => by rw [rd_f1, rd_f1, h1]
    have e0 : ∀ i, (rd_T94 m i).f0 = (rd_T94 l i).f0 := fun i => by rw [rd_f0, rd_f0, h0]
    rw [restA, restA, e1, e0, find_like h0, rest_like h0 h1 f]
theorem ups_like {l m : List S94} (h0 : m.map (·.f0) = l.map (·.f0)) (h1 : m.map (·.f1) = l.map (·.f1)) (i : Nat) : upsA m i = upsA l i := by
  rw [upsA, upsA, rest_like h0 h1, rd_f0, rd_f0, h0]
theorem set_f0 {l : List S94} {i : Nat} (hi : i < l.length) (n : Int) : (setA l i n).map (·.f0) = l.map (·.f0) := by
  unfold setA
  rw [List.map_set, rdA l i hi]
  apply List.ext_getElem
  · simp
  · intro j h1 h2
    rw [List.getElem_set]
    split
    · rename_i h
      subst h
      simp
    · rfl
theorem set_f1 {l : List S94} {i : Nat} (hi : i < l.length) (n : Int) : (setA l i n).map (·.f1) = l.map (·.f1) := by
  unfold setA
  rw [List.map_set, rdA l i hi]
  apply List.ext_getElem
  · simp
  · intro j h1 h2
    rw [List.getElem_set]
    split
    · rename_i h
      subst h
      simp
    · rfl
theorem set_len (l : List S94) (i : Nat) (n : Int) : (setA l i n).length = l.length := by simp [setA]
theorem set_at {l : List S94} {i j : Nat} (hi : i < l.length) (hj : j < l.length) (n : Int) : (setA l i n)[j]'(by rw [set_len]; exact hj) = ⟨l[j].f0, l[j].f1, if i = j then n else l[j].f2⟩ := by
  unfold setA
  rw [List.getElem_set]
  split
  · rename_i h
    subst h
    rw [rdA l i hi]
  · rfl
theorem set_tree {l : List S94} (T : TreeOK l) {i : Nat} (hi : i < l.length) {n : Int} (h1 : -1 ≤ n) (h2 : n ≤ 1073741824) : TreeOK (setA l i n) := by
  intro j hj
  have hjl : j < l.length := by rw [set_len] at hj; exact hj
  have hT := (okA_iff _ _).1 (T j hjl)
  have hm : ((setA l i n).take j).map (·.f0) = (l.take j).map (·.f0) := by rw [List.map_take, List.map_take, set_f0 hi]
  rw [okA_iff, set_at hi hjl, find_like hm, find_like hm]
  refine ⟨hT.1, hT.2.1, hT.2.2.1, ?_⟩
  have h4 := hT.2.2.2
  by_cases h : i = j
  · simp only [h, if_true]
    exact ⟨h1, h2⟩
  · simp only [h, if_false]
    exact h4
theorem tlm_l0 {l : List S94} (T : TreeOK l) (hl : l.length ≤ 16) {i : Nat} (hi : i < l.length) (n : Int) (s : ByteArray) (hs : l[i].f0 = s) : ∀ d j, l.length - j = d → j ≤ l.length → Ev (fun k => musterlaw14_TreeLimits.l0 k l n s (setA l i n) (l.length : Int) (j : Int)) true
  | 0, j, hd, hj => Ev.stp (fun k => by rw [musterlaw14_TreeLimits.l0]) (Ev.neg (by omega) (Ev.bnd awakeT_ev (Ev.one rfl)))
  | d + 1, j, hd, hj => by
    have hlt : j < l.length := by omega
    have hsl := set_len l i n
    refine Ev.stp (fun k => by rw [musterlaw14_TreeLimits.l0]) (Ev.pos (by omega) (Ev.pos (by omega) (Ev.pos (by omega) ?_)))
    have ih := tlm_l0 T hl hi n s hs d (j + 1) (by omega) (by omega)
    rw [rdA l j hlt, rdA (setA l i n) j (by omega), set_at hi hlt, wr1 (by omega)]
    by_cases h : l[j].f0.toList = s.toList
    · have hij : i = j := tree_apart T hi hlt (hs.trans (toL_inj h).symm)
      refine Ev.pos h (Ev.pos (by omega) (Ev.neg ?_ ih))
      simp [hij]
    · have hij : ¬ i = j := by
        rintro rfl
        exact h (by rw [hs])
      refine Ev.neg h (Ev.pos (by omega) (Ev.neg ?_ ih))
      simp [hij]
theorem TreeLimits (x0 : List (S94)) (x1 : S99) (x2 : Int) (w0 : (x0.length * 40 ≤ 140737488351232 ∧ ∀ yx0 ∈ x0, g94 yx0)) (w1 : g99 x1) (w2 : (Lit.int .i64 x2).wf = true) : ∃ k, PT.musterlaw14_TreeLimits.f k x0 (x1.f0) (x1.f1) x2 = some true := by
  clear w0 w1 w2
  refine Ev.the ?_
  unfold PT.musterlaw14_TreeLimits.f
  refine Ev.bnd (limit_ev x0 x1.f0 x2) ?_
  have fall : ∀ e : Int, e ≠ 0 → limA x0 x1.f0 x2 = ([], e) → Ev (fun k => if (limA x0 x1.f0 x2).2 = 0 then ((tree_Path.f k x0 x1.f1).bind fun bt301 => (tree_Path.f k (limA x0 x1.f0 x2).1 x1.f1).bind fun bt305 => (tree_Right.f (limA x0 x1.f0 x2).1).bind fun t309 => if t309 = true then (if bt301.2 = bt305.2 then ((musterkit_SameTexts.f k bt301.1 bt305.1).bind fun t310 => if t310 = true then musterlaw14_TreeLimits.j0 k x0 x2 x1.f0 (limA x0 x1.f0 x2).1 ((x0.length : Int) != ((limA x0 x1.f0 x2).1.length : Int)) else musterlaw14_TreeLimits.j0 k x0 x2 x1.f0 (limA x0 x1.f0 x2).1 true) else musterlaw14_TreeLimits.j0 k x0 x2 x1.f0 (limA x0 x1.f0 x2).1 true) else musterlaw14_TreeLimits.j0 k x0 x2 x1.f0 (limA x0 x1.f0 x2).1 true) else if (((limA x0 x1.f0 x2).1.length : Nat) : Int) = 0 then (musterlaw14_awake.f k).bind fun t300 => some t300 else some false) true := by
    intro e he h
    rw [h]
    exact Ev.neg he (Ev.pos rfl (Ev.bnd awakeT_ev (Ev.one rfl)))
  by_cases hg : rightA x0 = true ∧ -1 ≤ x2 ∧ x2 ≤ 1073741824
  · cases hf : (findA x0 x1.f0).2 with
    | true =>
      obtain ⟨i, hi, he, hs⟩ := found_at hf
      have hlim : limA x0 x1.f0 x2 = (setA x0 i x2, 0) := by
        unfold limA
        rw [if_pos hg, he, if_pos rfl, Int.toNat_natCast]
      obtain ⟨T, h1, hl⟩ := (right_iff x0).1 hg.1
      have T2 := set_tree T hi hg.2.1 hg.2.2
      have hr2 : rightA (setA x0 i x2) = true := (right_iff _).2 ⟨T2, by rw [set_len]; exact h1, by rw [set_len]; exact hl⟩
      have hp : pathA (setA x0 i x2) x1.f1 = pathA x0 x1.f1 := by
        unfold pathA
        rw [hr2, hg.1, find_like (set_f0 hi x2), ups_like (set_f0 hi x2) (set_f1 hi x2)]
      have hpl : (pathA x0 x1.f1).1.length < 9000000000000000000 := by
        unfold pathA
        rw [if_pos hg.1]
        cases hf2 : (findA x0 x1.f1).2 with
        | true =>
          obtain ⟨p, hp, he2, _⟩ := found_at hf2
          rw [if_pos rfl, he2, Int.toNat_natCast]
          have := ups_len T hp
          simp only
          omega
        | false => rw [if_neg (by decide)]; simp
      rw [hlim]
      refine Ev.pos rfl (Ev.bnd (path_ev x0 x1.f1) (Ev.bnd (path_ev (setA x0 i x2) x1.f1) (Ev.bnd (Ev.const (show tree_Right.f (setA x0 i x2) = some true by unfold tree_Right.f; rw [hr2])) (Ev.pos rfl ?_))))
      rw [hp, set_len, bne_self_eq_false]
      refine Ev.pos rfl (Ev.bnd (texts_ev _ hpl) (Ev.pos rfl ?_))
      have hz : Ev (fun k => musterlaw14_TreeLimits.l0 k x0 x2 x1.f0 (setA x0 i x2) (x0.length : Int) 0) true := tlm_l0 T hl hi x2 x1.f0 hs _ 0 rfl (by omega)
      exact Ev.stp (fun k => by rw [musterlaw14_TreeLimits.j0]) (Ev.neg (show ¬ false = true by decide) hz)
    | false =>
      refine fall 141 (by decide) ?_
      unfold limA
      rw [if_pos hg, hf, if_neg (by decide)]
  · refine fall 2 (by decide) ?_
    unfold limA
    rw [if_neg hg]
end Go.Proofs.Ythcikldhlohjbaa.Pure
