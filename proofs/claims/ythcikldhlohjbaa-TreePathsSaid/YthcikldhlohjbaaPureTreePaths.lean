/- An account lies below another exactly if that one stands on its path. -/
import Derived.Test.YthcikldhlohjbaaPTx26
import Derived.Test.YthcikldhlohjbaaPTOpenTreePaths
import Derived.Test.YthcikldhlohjbaaPlainTreeB
set_option linter.unusedVariables false
set_option linter.unusedSimpArgs false
namespace Go.Proofs.Ythcikldhlohjbaa.Pure
open Go.RowKit Go.Proofs.YthcikldhlohjbaaW.PrintWords Go.Proofs.YthcikldhlohjbaaW.PrintLast Go.Proofs.YthcikldhlohjbaaW.PrintMore Go.Proofs.Ythcikldhlohjbaa.EvK Go.Proofs.Ythcikldhlohjbaa.PT Go.Proofs.Ythcikldhlohjbaa.PT.TreePathsOpen
theorem has_l0 (L : List ByteArray) (s : ByteArray) (hL : L.length < 9000000000000000000) : ∀ d j, L.length - j = d → j ≤ L.length → Ev (fun k => musterlaw14_has.l0 k L s (j : Int)) ((L.drop j).any (fun x => x.toList == s.toList))
  | 0, j, hd, hj => Ev.stp (fun k => by rw [musterlaw14_has.l0]) (Ev.neg (by omega) (Ev.one (by rw [List.drop_of_length_le (by omega)]; rfl)))
  | d + 1, j, hd, hj => by
    have hlt : j < L.length := by omega
    rw [drop_any L _ j hlt]
    refine Ev.stp (fun k => by rw [musterlaw14_has.l0]) (Ev.pos (by omega) (Ev.pos (by omega) ?_))
    rw [rdB L j hlt]
    by_cases h : L[j].toList = s.toList
    · exact Ev.pos h (Ev.one (by simp [h]))
    · rw [wr1 (by omega), show (L[j].toList == s.toList) = false from beq_eq_false_iff_ne.2 h, Bool.false_or]
      exact Ev.neg h (has_l0 L s hL d (j + 1) (by omega) (by omega))
theorem has_ev (L : List ByteArray) (s : ByteArray) (hL : L.length < 9000000000000000000) : Ev (fun k => musterlaw14_has.f k L s) (hasB L s) := has_l0 L s hL _ 0 rfl (by omega)
theorem tp_end {l : List S94} (hr : rightA l = true) (T : TreeOK l) (hl : l.length ≤ 16) {i : Nat} (hi : i < l.length) (a : ByteArray) (ha : l[i].f0 = a) : Ev (fun k => musterlaw14_TreePaths.l0 k l a (upsA l i) ((upsA l i).length : Int)) true := by
  have hlen := ups_len T hi
  refine Ev.stp (fun k => by rw [musterlaw14_TreePaths.l0]) (Ev.neg (by omega) ?_)
  by_cases he : l[i].f1.toList = []
  · have hu : upsA l i = [l[i].f0] := by rw [ups_eq hi, rest_top _ hi he]
    rw [hu]
    refine Ev.neg (by simp) (Ev.bnd (Ev.const (show tree_Find.f l a = some ((i : Int), true) by unfold tree_Find.f; rw [find_self T hi ha])) (Ev.pos rfl (Ev.pos (by simp only; omega) (Ev.pos (by simp only; omega) ?_))))
    simp only
    rw [rdA l i hi]
    exact Ev.pos he (Ev.bnd awakeT_ev (Ev.one rfl))
  · obtain ⟨p, hp, h1, h2, h3⟩ := par_lt T hi he
    have hu : upsA l i = l[i].f0 :: upsA l p := by rw [ups_eq hi, rest_step T hi hp h1 he h2]
    have hpl := ups_len T hp
    have hp0 : (upsA l p) = l[p].f0 :: restA l p p := ups_eq hp
    have hn : rdOf ByteArray.empty (upsA l i) 1 = l[p].f0 := by
      have h4 : rdOf ByteArray.empty (upsA l i) ((1 : Nat) : Int) = (upsA l i)[1]'(by rw [hu, hp0]; simp) := rdB _ 1 _
      have h5 : ((1 : Nat) : Int) = 1 := rfl
      rw [h5] at h4
      rw [h4]
      simp only [hu, hp0, List.getElem_cons_succ, List.getElem_cons_zero]
    have hd : (upsA l i).drop 1 = upsA l p := by rw [hu]; rfl
    have h6 : 1 < (upsA l i).length := by rw [hu, hp0]; simp
    have hpa : pathA l l[p].f0 = (upsA l p, 0) := by
      unfold pathA
      rw [if_pos hr, find_self T hp rfl, if_pos rfl, Int.toNat_natCast]
    refine Ev.pos (by omega) (Ev.pos (by omega) ?_)
    rw [hn, hd]
    refine Ev.bnd (a := (upsA l p, 0)) (by rw [← hpa]; exact path_ev l _) (Ev.pos rfl (Ev.pos (by omega) (Ev.bnd (texts_ev (upsA l p) (by omega)) (Ev.pos rfl (Ev.bnd awakeT_ev (Ev.one rfl))))))
theorem tp_l0 {l : List S94} (hr : rightA l = true) (T : TreeOK l) (hl : l.length ≤ 16) {i : Nat} (hi : i < l.length) (a : ByteArray) (ha : l[i].f0 = a) : ∀ d j, (upsA l i).length - j = d → j ≤ (upsA l i).length → Ev (fun k => musterlaw14_TreePaths.l0 k l a (upsA l i) (j : Int)) true
  | 0, j, hd, hj => by
    rw [show j = (upsA l i).length by omega]
    exact tp_end hr T hl hi a ha
  | d + 1, j, hd, hj => by
    have hlen := ups_len T hi
    have hlt : j < (upsA l i).length := by omega
    refine Ev.stp (fun k => by rw [musterlaw14_TreePaths.l0]) (Ev.pos (by omega) (Ev.pos (by omega) (Ev.pos (by omega) ?_)))
    rw [rdB _ j hlt, Int.toNat_natCast, wr1 (by omega)]
    have hn : hasB ((upsA l i).take j) (upsA l i)[j] = false := by
      cases h : hasB ((upsA l i).take j) (upsA l i)[j] with
      | false => rfl
      | true =>
        obtain ⟨m, hm, he⟩ := List.mem_iff_getElem.1 ((hasB_iff _ _).1 h)
        have hm2 : m < j := by rw [List.length_take] at hm; omega
        rw [List.getElem_take] at he
        exact absurd he ((List.pairwise_iff_getElem.1 (ups_apart T (i + 1) i (by omega) hi)) m j (by omega) hlt hm2)
    refine Ev.bnd (has_ev _ _ (by rw [List.length_take]; omega)) ?_
    rw [hn]
    exact Ev.neg (by decide) (tp_l0 hr T hl hi a ha d (j + 1) (by omega) (by omega))
theorem path_cases (l : List S94) (s : ByteArray) : (∃ i, ∃ hi : i < l.length, rightA l = true ∧ l[i].f0 = s ∧ pathA l s = (upsA l i, 0) ∧ belowA l s = (belA l s l.length, 0)) ∨ ((pathA l s).2 ≠ 0 ∧ (belowA l s).2 ≠ 0) := by
  unfold pathA belowA
  by_cases hr : rightA l = true
  · cases hf : (findA l s).2 with
    | true =>
      obtain ⟨p, hp, he, h⟩ := found_at hf
      exact Or.inl ⟨p, hp, hr, h, by rw [if_pos hr, if_pos rfl, he, Int.toNat_natCast], by rw [if_pos hr, if_pos rfl]⟩
    | false => exact Or.inr ⟨by rw [if_pos hr, if_neg (by decide)]; decide, by rw [if_pos hr, if_neg (by decide)]; decide⟩
  · exact Or.inr ⟨by rw [if_neg hr]; decide, by rw [if_neg hr]; decide⟩
theorem TreePaths (x0 : List (S94)) (x1 : ByteArray) (x2 : ByteArray) (w0 : (x0.length * 40 ≤ 140737488351232 ∧ ∀ yx0 ∈ x0, g94 yx0)) (w1 : x1.size ≤ 140737488351232) (w2 : x2.size ≤ 140737488351232) : ∃ k, PT.musterlaw14_TreePaths.f k x0 x1 x2 = some true := by
  clear w0 w1 w2
  refine Ev.the ?_
  unfold PT.musterlaw14_TreePaths.f
  refine Ev.bnd (path_ev x0 x1) (Ev.bnd (below_ev x0 x2) ?_)
  have hout : ∀ (p q : List ByteArray), Ev (fun k => musterlaw14_TreePaths.j0 k x0 x1 x2 p q true) true := fun p q => Ev.stp (fun k => by rw [musterlaw14_TreePaths.j0]) (Ev.pos rfl (Ev.bnd awakeT_ev (Ev.one rfl)))
  rcases path_cases x0 x1 with ⟨i, hi, hr, ha, hp, _⟩ | ⟨h1, _⟩
  · rw [hp]
    refine Ev.pos rfl ?_
    rcases path_cases x0 x2 with ⟨j, hj, _, hb, _, hq⟩ | ⟨_, h2⟩
    · rw [hq]
      obtain ⟨T, _, hl⟩ := (right_iff x0).1 hr
      have hlen := ups_len T hi
      have hbl := belA_len x0 x2 x0.length
      have e1 : hasB (belA x0 x2 x0.length) x1 = hasB (upsA x0 i) x2 := by
        rw [Bool.eq_iff_iff, hasB_iff, belA_mem x0 x2 x1 _ (Nat.le_refl _)]
        constructor
        · rintro ⟨m, hm, _, h3, h4⟩
          obtain rfl := tree_apart T hm hi (h4.trans ha.symm)
          exact h3
        · intro h
          exact ⟨i, hi, hi, h, ha⟩
      have e2 : hasB (belA x0 x2 x0.length) x2 = true := by
        rw [hasB_iff, belA_mem x0 x2 x2 _ (Nat.le_refl _)]
        exact ⟨j, hj, hj, by rw [hasB_iff, ups_eq hj, hb]; simp, hb⟩
      have e3 : (upsA x0 i).length = (restA x0 i i).length + 1 := by rw [ups_eq hi]; rfl
      have e4 : rdOf ByteArray.empty (upsA x0 i) 0 = x1 := by
        have h4 : rdOf ByteArray.empty (upsA x0 i) ((0 : Nat) : Int) = (upsA x0 i)[0]'(by omega) := rdB _ 0 _
        have h5 : ((0 : Nat) : Int) = 0 := rfl
        rw [h5] at h4
        rw [h4]
        simp only [ups_eq hi, List.getElem_cons_zero]
        exact ha
      show Ev (fun k => musterlaw14_TreePaths.j0 k x0 x1 x2 (upsA x0 i) (belA x0 x2 x0.length) false) true
      refine Ev.stp (fun k => by rw [musterlaw14_TreePaths.j0]) (Ev.neg (by decide) (Ev.bnd (has_ev (upsA x0 i) x2 (by omega)) (Ev.bnd (has_ev (belA x0 x2 x0.length) x1 (by omega)) ?_)))
      rw [e1, bne_self_eq_false, e4]
      refine Ev.neg (by decide) (Ev.neg (by omega) (Ev.pos (by omega) (Ev.pos rfl (Ev.bnd (has_ev (belA x0 x2 x0.length) x2 (by omega)) ?_))))
      rw [e2]
      have hz : Ev (fun k => musterlaw14_TreePaths.l0 k x0 x1 (upsA x0 i) 0) true := tp_l0 hr T hl hi x1 ha _ 0 rfl (by omega)
      exact Ev.stp (fun k => by rw [musterlaw14_TreePaths.j1]) (Ev.neg (show ¬ (!true) = true by decide) hz)
    · rw [show ((belowA x0 x2).2 != 0) = true from bne_iff_ne.2 h2]
      exact hout _ _
  · exact Ev.neg h1 (hout _ _)
end Go.Proofs.Ythcikldhlohjbaa.Pure
