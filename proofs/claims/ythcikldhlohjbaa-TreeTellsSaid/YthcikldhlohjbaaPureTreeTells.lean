/- Accounts are found, and their paths, subtrees and limits told, as the document defines. -/
import Derived.Test.YthcikldhlohjbaaPTx24
import Derived.Test.YthcikldhlohjbaaPTOpenTreeTells
import Derived.Test.YthcikldhlohjbaaPlainTreeB
set_option linter.unusedVariables false
set_option linter.unusedSimpArgs false
namespace Go.Proofs.Ythcikldhlohjbaa.Pure
open Go.RowKit Go.Proofs.YthcikldhlohjbaaW.PrintWords Go.Proofs.YthcikldhlohjbaaW.PrintLast Go.Proofs.YthcikldhlohjbaaW.PrintMore Go.Proofs.Ythcikldhlohjbaa.Gen Go.Proofs.Ythcikldhlohjbaa.EvK Go.Proofs.Ythcikldhlohjbaa.PT Go.Proofs.Ythcikldhlohjbaa.PT.TreeTellsOpen
/-- What the model can hold of names. -/
def Small (l : List S94) : Prop := l.length ≤ 1000000000000 ∧ ∀ x ∈ l, x.f0.size < 9000000000000000000
theorem right_f {l : List S94} (hs : Small l) : musterref14_Right.f l = some (rightA l) := by
  unfold musterref14_Right.f
  rw [if_pos ⟨by have := hs.1; omega, List.all_eq_true.2 (fun x hx => decide_eq_true (hs.2 x hx))⟩]
theorem rpath_l0 {l : List S94} (T : TreeOK l) (hll : l.length ≤ 16) : ∀ n i, i < n → ∀ hi : i < l.length, ∀ acc : List ByteArray, acc.length + i < 8796093022208 → Ev (fun k => musterref14_Path.l0 k l (i : Int) acc) (acc ++ restA l i i, 0)
  | 0, i, h, hi, acc, ha => by omega
  | n + 1, i, h, hi, acc, ha => by
    refine Ev.stp (fun k => by rw [musterref14_Path.l0]) (Ev.pos (by omega) (Ev.pos (by omega) ?_))
    rw [rdA l i hi]
    by_cases he : l[i].f1.toList = []
    · refine Ev.pos he ?_
      rw [rest_top _ hi he, List.append_nil]
      exact Ev.one rfl
    · obtain ⟨p, hp, h1, h2, h3⟩ := par_lt T hi he
      refine Ev.neg he (Ev.bnd (refFind_ev l l[i].f1 (by omega)) ?_)
      rw [h2]
      refine Ev.pos (by simp only; omega) (Ev.pos (by simp only; omega) (Ev.pos (by omega) ?_))
      simp only
      rw [rdA l p hp, rest_step T hi hp h1 he h2, ups_eq hp, show acc ++ l[p].f0 :: restA l p p = acc ++ [l[p].f0] ++ restA l p p by simp]
      exact rpath_l0 T hll n p (by omega) hp (acc ++ [l[p].f0]) (by rw [List.length_append, List.length_singleton]; omega)
theorem rpath_ev {l : List S94} (hs : Small l) (s : ByteArray) : Ev (fun k => musterref14_Path.f k l s) (pathA l s) := by
  unfold musterref14_Path.f pathA
  refine Ev.bnd (Ev.const (right_f hs)) ?_
  by_cases hr : rightA l = true
  · obtain ⟨T, _, hl⟩ := (right_iff l).1 hr
    rw [hr, if_pos rfl]
    refine Ev.pos rfl (Ev.bnd (refFind_ev l s (by omega)) ?_)
    cases hf : (findA l s).2 with
    | true =>
      obtain ⟨p, hp, he, hn⟩ := found_at hf
      rw [if_pos rfl, he, Int.toNat_natCast, ups_eq hp, hn]
      exact Ev.pos rfl (rpath_l0 T hl (p + 1) p (by omega) hp [s] (by simp; omega))
    | false =>
      rw [if_neg (by decide)]
      exact Ev.neg (by decide) (Ev.one rfl)
  · rw [if_neg hr]
    exact Ev.neg hr (Ev.one rfl)
theorem in_l0 (L : List ByteArray) (s : ByteArray) (hL : L.length < 9000000000000000000) : ∀ d j, L.length - j = d → j ≤ L.length → Ev (fun k => musterref14_In.l0 k L s (j : Int)) ((L.drop j).any (fun x => x.toList == s.toList))
  | 0, j, hd, hj => Ev.stp (fun k => by rw [musterref14_In.l0]) (Ev.neg (by omega) (Ev.one (by rw [List.drop_of_length_le (by omega)]; rfl)))
  | d + 1, j, hd, hj => by
    have hlt : j < L.length := by omega
    rw [drop_any L _ j hlt]
    refine Ev.stp (fun k => by rw [musterref14_In.l0]) (Ev.pos (by omega) (Ev.pos (by omega) ?_))
    rw [rdB L j hlt]
    by_cases h : L[j].toList = s.toList
    · exact Ev.pos h (Ev.one (by simp [h]))
    · rw [wr1 (by omega), show (L[j].toList == s.toList) = false from beq_eq_false_iff_ne.2 h, Bool.false_or]
      exact Ev.neg h (in_l0 L s hL d (j + 1) (by omega) (by omega))
theorem in_ev (L : List ByteArray) (s : ByteArray) (hL : L.length < 9000000000000000000) : Ev (fun k => musterref14_In.f k L s) (hasB L s) := in_l0 L s hL _ 0 rfl (by omega)
theorem path_at {l : List S94} (hr : rightA l = true) (T : TreeOK l) {i : Nat} (hi : i < l.length) : pathA l l[i].f0 = (upsA l i, 0) := by
  unfold pathA
  rw [if_pos hr, find_self T hi rfl, if_pos rfl, Int.toNat_natCast]
theorem rbelow_l0 {l : List S94} (hs : Small l) (hr : rightA l = true) (T : TreeOK l) (hl : l.length ≤ 16) (s : ByteArray) : ∀ d j, l.length - j = d → j ≤ l.length → Ev (fun k => musterref14_Below.l0 k l s (belA l s j) (j : Int)) (belA l s l.length, 0)
  | 0, j, hd, hj => Ev.stp (fun k => by rw [musterref14_Below.l0]) (Ev.neg (by omega) (Ev.one (by rw [show j = l.length by omega])))
  | d + 1, j, hd, hj => by
    have hlt : j < l.length := by omega
    have hlen := ups_len T hlt
    have hb := belA_len l s j
    have hp := rpath_ev hs l[j].f0
    rw [path_at hr T hlt] at hp
    refine Ev.stp (fun k => by rw [musterref14_Below.l0]) (Ev.pos (by omega) (Ev.pos (by omega) ?_))
    rw [rdA l j hlt]
    refine Ev.bnd hp (Ev.bnd (in_ev (upsA l j) s (by omega)) ?_)
    have ih := rbelow_l0 hs hr T hl s d (j + 1) (by omega) (by omega)
    rw [wr1 (by omega)]
    rw [belA, rdA l j hlt] at ih
    cases hh : hasB (upsA l j) s with
    | true =>
      rw [hh, if_pos rfl] at ih
      exact Ev.pos rfl (Ev.pos (by omega) ih)
    | false =>
      rw [hh, if_neg (by decide), List.append_nil] at ih
      exact Ev.neg (by decide) ih
theorem rbelow_ev {l : List S94} (hs : Small l) (s : ByteArray) : Ev (fun k => musterref14_Below.f k l s) (belowA l s) := by
  unfold musterref14_Below.f
  refine Ev.bnd (rpath_ev hs s) ?_
  unfold pathA belowA
  by_cases hr : rightA l = true
  · obtain ⟨T, _, hl⟩ := (right_iff l).1 hr
    rw [if_pos hr, if_pos hr]
    cases hf : (findA l s).2 with
    | true =>
      rw [if_pos rfl, if_pos rfl]
      exact Ev.pos rfl (rbelow_l0 hs hr T hl s _ 0 rfl (by omega))
    | false =>
      rw [if_neg (by decide), if_neg (by decide)]
      exact Ev.neg (by decide) (Ev.one rfl)
  · rw [if_neg hr, if_neg hr]
    exact Ev.neg (by decide) (Ev.one rfl)
theorem copy_l0 (l : List S94) (hl : l.length ≤ 1000000000000) : ∀ d j, l.length - j = d → j ≤ l.length → Ev (fun k => musterkit_CopyAccounts.l0 k l (l.take j) (j : Int)) l
  | 0, j, hd, hj => Ev.stp (fun k => by rw [musterkit_CopyAccounts.l0]) (Ev.neg (by omega) (Ev.one (List.take_of_length_le (by omega))))
  | d + 1, j, hd, hj => by
    have hlt : j < l.length := by omega
    refine Ev.stp (fun k => by rw [musterkit_CopyAccounts.l0]) (Ev.pos (by omega) (Ev.pos (by omega) (Ev.pos (by rw [List.length_take]; omega) ?_)))
    rw [rdA l j hlt, wr1 (by omega), show (⟨l[j].f0, l[j].f1, l[j].f2⟩ : S94) = l[j] from rfl, take_next l j hlt]
    exact copy_l0 l hl d (j + 1) (by omega) (by omega)
theorem copy_ev (l : List S94) (hl : l.length ≤ 1000000000000) : Ev (fun k => musterkit_CopyAccounts.f k l) l := copy_l0 l hl _ 0 rfl (by omega)
theorem rlimit_ev {l : List S94} (hs : Small l) (s : ByteArray) (n : Int) : Ev (fun k => musterref14_Limit.f k l s n) (limA l s n) := by
  unfold musterref14_Limit.f limA
  have bad : Ev (fun k => musterref14_Limit.j0 k l s n true) ([], 2) := Ev.stp (fun k => by rw [musterref14_Limit.j0]) (Ev.pos rfl (Ev.one rfl))
  refine Ev.bnd (Ev.const (right_f hs)) ?_
  by_cases hr : rightA l = true
  · obtain ⟨T, _, hl⟩ := (right_iff l).1 hr
    rw [hr]
    refine Ev.pos rfl ?_
    by_cases hn : -1 ≤ n ∧ n ≤ 1073741824
    · rw [if_pos ⟨rfl, hn⟩]
      refine Ev.neg (by omega) ?_
      rw [show decide (n > 1073741824) = false from decide_eq_false (by omega)]
      refine Ev.stp (fun k => by rw [musterref14_Limit.j0]) (Ev.neg (by decide) (Ev.bnd (refFind_ev l s (by omega)) ?_))
      cases hf : (findA l s).2 with
      | true =>
        obtain ⟨p, hp, he, _⟩ := found_at hf
        rw [if_pos rfl, he]
        refine Ev.pos rfl (Ev.bnd (copy_ev l (by omega)) (Ev.pos (by simp only; omega) (Ev.pos (by simp only; omega) (Ev.one ?_))))
        rw [Int.toNat_natCast]
        rfl
      | false =>
        rw [if_neg (by decide)]
        exact Ev.neg (by decide) (Ev.one rfl)
    · rw [if_neg (fun h => hn h.2)]
      by_cases h1 : n < -1
      · exact Ev.pos h1 bad
      · refine Ev.neg h1 ?_
        rw [show decide (n > 1073741824) = true from decide_eq_true (by omega)]
        exact bad
  · rw [if_neg (fun h => hr h.1)]
    exact Ev.neg hr bad
theorem accounts_l0 (L : List S94) (hL : L.length ≤ 1000000000000) : ∀ d j, L.length - j = d → j ≤ L.length → Ev (fun k => musterkit_SameAccounts.l0 k L L (j : Int)) true
  | 0, j, hd, hj => Ev.stp (fun k => by rw [musterkit_SameAccounts.l0]) (Ev.neg (by omega) (Ev.one rfl))
  | d + 1, j, hd, hj => by
    refine Ev.stp (fun k => by rw [musterkit_SameAccounts.l0]) (Ev.pos (by omega) (Ev.pos (by omega) (Ev.pos (by omega) (Ev.neg (by simp) ?_))))
    rw [wr1 (by omega)]
    exact accounts_l0 L hL d (j + 1) (by omega) (by omega)
theorem accounts_ev (L : List S94) (hL : L.length ≤ 1000000000000) : Ev (fun k => musterkit_SameAccounts.f k L L) true := by
  unfold musterkit_SameAccounts.f
  exact Ev.pos rfl (accounts_l0 L hL _ 0 rfl (by omega))
theorem tells_l0 (l : List S94) (hl : l.length ≤ 1000000000000) : ∀ d (x : List S94) j, x.length - j = d → j ≤ x.length → x.length ≤ 1000000000000 → Ev (fun k => musterlaw14_TreeTells.l0 k l l x (j : Int)) true
  | 0, x, j, hd, hj, hx => Ev.stp (fun k => by rw [musterlaw14_TreeTells.l0]) (Ev.neg (by omega) (Ev.bnd (accounts_ev l hl) (Ev.pos rfl (Ev.bnd awakeT_ev (Ev.one rfl)))))
  | d + 1, x, j, hd, hj, hx => by
    refine Ev.stp (fun k => by rw [musterlaw14_TreeTells.l0]) (Ev.pos (by omega) (Ev.pos (by omega) ?_))
    rw [wr1 (by omega)]
    exact tells_l0 l hl d _ (j + 1) (by rw [List.length_set]; omega) (by rw [List.length_set]; omega) (by rw [List.length_set]; omega)
theorem pathA_len (l : List S94) (s : ByteArray) : (pathA l s).1.length < 1000 := by
  unfold pathA
  by_cases hr : rightA l = true
  · obtain ⟨T, _, hl⟩ := (right_iff l).1 hr
    rw [if_pos hr]
    cases hf : (findA l s).2 with
    | true =>
      obtain ⟨p, hp, he, _⟩ := found_at hf
      rw [if_pos rfl, he, Int.toNat_natCast]
      have := ups_len T hp
      simp only
      omega
    | false => rw [if_neg (by decide)]; simp
  · rw [if_neg hr]; simp
theorem belowA_len (l : List S94) (s : ByteArray) : (belowA l s).1.length < 1000 := by
  unfold belowA
  by_cases hr : rightA l = true
  · obtain ⟨T, _, hl⟩ := (right_iff l).1 hr
    rw [if_pos hr]
    cases hf : (findA l s).2 with
    | true =>
      rw [if_pos rfl]
      have := belA_len l s l.length
      simp only
      omega
    | false => rw [if_neg (by decide)]; simp
  · rw [if_neg hr]; simp
theorem limA_len (l : List S94) (s : ByteArray) (n : Int) : (limA l s n).1.length ≤ l.length := by
  unfold limA
  split
  · split
    · simp [setA]
    · simp
  · simp
theorem TreeTells (x0 : List (S94)) (x1 : ByteArray) (x2 : Int) (w0 : (x0.length * 40 ≤ 140737488351232 ∧ ∀ yx0 ∈ x0, g94 yx0)) (w1 : x1.size ≤ 140737488351232) (w2 : (Lit.int .i64 x2).wf = true) : ∃ k, PT.musterlaw14_TreeTells.f k (PT.cutTo 100 x0) x1 x2 = some true := by
  have hS : Small (PT.cutTo 100 x0) := by
    unfold PT.cutTo
    have hmem : ∀ x ∈ x0, x.f0.size < 9000000000000000000 := fun x hx => by have := (w0.2 x hx).1; omega
    split
    · exact ⟨by rw [List.length_take]; omega, fun x hx => hmem x (List.mem_of_mem_take hx)⟩
    · exact ⟨by omega, hmem⟩
  clear w0
  generalize PT.cutTo 100 x0 = l at hS ⊢
  have hL := hS.1
  have hpl := pathA_len l x1
  have hbl := belowA_len l x1
  have hll := limA_len l x1 x2
  refine Ev.the ?_
  unfold PT.musterlaw14_TreeTells.f
  refine Ev.bnd (copy_ev l hL) (Ev.bnd (path_ev l x1) (Ev.bnd (rpath_ev hS x1) (Ev.bnd (below_ev l x1) (Ev.bnd (rbelow_ev hS x1) (Ev.bnd (limit_ev l x1 x2) (Ev.bnd (rlimit_ev hS x1 x2) (Ev.bnd (Ev.const rfl) (Ev.bnd (refFind_ev l x1 (by omega)) ?_))))))))
  refine Ev.pos rfl (Ev.pos rfl (Ev.pos rfl (Ev.pos rfl (Ev.neg (by rw [bne_self_eq_false]; decide) (Ev.bnd (Ev.const rfl) (Ev.bnd (Ev.const (right_f hS)) (Ev.neg (by rw [bne_self_eq_false]; decide) (Ev.bnd (Ev.const rfl) (Ev.bnd (refName_ev x1 (by omega)) ?_)))))))))
  rw [bne_self_eq_false]
  refine Ev.stp (fun k => by rw [musterlaw14_TreeTells.j0]) (Ev.neg (by decide) (Ev.bnd (texts_ev (pathA l x1).1 (by omega)) (Ev.pos rfl (Ev.bnd (texts_ev (belowA l x1).1 (by omega)) (Ev.pos rfl (Ev.bnd (accounts_ev (limA l x1 x2).1 (by omega)) ?_))))))
  have hz : Ev (fun k => musterlaw14_TreeTells.l0 k l l (limA l x1 x2).1 0) true := tells_l0 l hL _ _ 0 rfl (by omega) (by omega)
  exact Ev.stp (fun k => by rw [musterlaw14_TreeTells.j1]) (Ev.neg (show ¬ (!true) = true by decide) hz)
end Go.Proofs.Ythcikldhlohjbaa.Pure
