/- Tree: the document's Find and Name are the program's. -/
import Derived.Test.YthcikldhlohjbaaTreeB
import Derived.Lib.MapLaws
set_option linter.unusedVariables false
set_option linter.unusedSimpArgs false
namespace Go.Proofs.Ythcikldhlohjbaa.PT
open Go.RowKit Go.Proofs.YthcikldhlohjbaaW.PrintWords Go.Proofs.YthcikldhlohjbaaW.PrintLast Go.Proofs.YthcikldhlohjbaaW.PrintMore Go.Proofs.Ythcikldhlohjbaa.Gen Go.Proofs.Ythcikldhlohjbaa.EvK
theorem findA_at {l : List S94} {name : ByteArray} {j : Nat} (hj : j < l.length) (h : ∀ i (hi : i < j), isName name (l[i]'(by omega)) = false) (hp : isName name l[j] = true) : findA l name = ((j : Int), true) := by
  unfold findA
  rw [idxOf_at hj h hp]
  have h1 : l.any (isName name) = true := List.any_eq_true.2 ⟨l[j], List.getElem_mem hj, hp⟩
  rw [h1]
  congr 1
  omega
theorem findA_none {l : List S94} {name : ByteArray} (h : ∀ i (hi : i < l.length), isName name l[i] = false) : findA l name = (0, false) := by
  unfold findA
  rw [idxOf_none h]
  have h1 : l.any (isName name) = false := by
    rw [List.any_eq_false]
    intro x hx
    obtain ⟨i, hi, rfl⟩ := List.mem_iff_getElem.1 hx
    simp [h i hi]
  rw [h1]
  rfl
theorem refFind_l0 (l : List S94) (name : ByteArray) (hl : l.length < 9000000000000000000) : ∀ d j, l.length - j = d → j ≤ l.length → (∀ i (hi : i < l.length), i < j → isName name l[i] = false) → Ev (fun k => musterref14_Find.l0 k l name (j : Int)) (findA l name)
  | 0, j, hd, hj, hn => Ev.stp (fun k => by rw [musterref14_Find.l0]) <| Ev.neg (by omega) <| Ev.one (by rw [findA_none (fun i hi => hn i hi (by omega))])
  | d + 1, j, hd, hj, hn => Ev.stp (fun k => by rw [musterref14_Find.l0]) <| Ev.pos (by omega) <| Ev.pos (by omega) <| by
    have hlt : j < l.length := by omega
    rw [rdA l j hlt]
    by_cases h : isName name l[j] = true
    · have h2 : l[j].f0.toList = name.toList := by unfold isName at h; simpa using h
      exact Ev.pos h2 (Ev.one (by rw [findA_at hlt (fun i hi => hn i (by omega) hi) h]))
    · have h2 : ¬ l[j].f0.toList = name.toList := by unfold isName at h; simpa using h
      refine Ev.neg h2 ?_
      rw [wr1 (by omega)]
      refine refFind_l0 l name hl d (j + 1) (by omega) (by omega) (fun i hi hij => ?_)
      rcases Nat.lt_or_ge i j with h3 | h3
      · exact hn i hi h3
      · obtain rfl : i = j := by omega
        simpa using h
theorem refFind_ev (l : List S94) (name : ByteArray) (hl : l.length < 9000000000000000000) : Ev (fun k => musterref14_Find.f k l name) (findA l name) := by
  have := refFind_l0 l name hl _ 0 rfl (by omega) (fun i _ h => by omega)
  exact this
/-! ### names -/
theorem get_bt (s : ByteArray) (i : Nat) (h : i < s.size) : ((s.get! i).toNat : Int) = bt s (i : Int) := by
  have h2 := bt_at s (i : Int) (by simpa using h)
  rw [← h2]
  have h3 : s.get! i = s[i] := by
    have : s.get! i = s.data[i]! := rfl
    rw [this, getElem!_pos s.data i h]
    rfl
  rw [h3]
  simp
theorem dec_low (s : ByteArray) (i : Nat) (h : (s.get! i).toNat < 128) : Utf8.decode s i = ((s.get! i).toNat, 1) := by
  rw [Lib.decode_at]
  rcases Lib.decodeN_shape (s.size - i) (s.get! i).toNat (s.get! (i + 1)).toNat (s.get! (i + 2)).toNat (s.get! (i + 3)).toNat with ⟨c, e⟩ | ⟨c1, c2, c3, cv, e⟩ | ⟨c1, c2, c3, c4, cv, cs, e⟩ | ⟨c1, c2, c3, c4, c5, cv, cw, e⟩ | e
  · exact e
  · omega
  · omega
  · omega
  · unfold Lib.decodeN at e ⊢
    rw [if_pos h]
theorem dec_high (s : ByteArray) (i : Nat) (h : 128 ≤ (s.get! i).toNat) : 128 ≤ (Utf8.decode s i).1 := by
  rw [Lib.decode_at]
  rcases Lib.decodeN_shape (s.size - i) (s.get! i).toNat (s.get! (i + 1)).toNat (s.get! (i + 2)).toNat (s.get! (i + 3)).toNat with ⟨c, e⟩ | ⟨c1, c2, c3, cv, e⟩ | ⟨c1, c2, c3, c4, cv, cs, e⟩ | ⟨c1, c2, c3, c4, c5, cv, cw, e⟩ | e <;> first | omega | (rw [e]; simp only; omega)
theorem badR_high {x : Nat} (h : 128 ≤ x) : badR x = true := by unfold badR; exact decide_eq_true (by omega)
theorem any_true (s : ByteArray) : ∀ f pos, s.size ≤ pos + f → ∀ i, pos ≤ i → i < s.size → badR (s.get! i).toNat = true → anyRune badR s f pos = true
  | 0, pos, hf, i, hi, hs, hb => by omega
  | f + 1, pos, hf, i, hi, hs, hb => by
    rw [anyRune, if_pos (by omega)]
    rcases Nat.lt_or_ge (s.get! pos).toNat 128 with h | h
    · rw [dec_low s pos h]
      simp only
      split
      · rfl
      · rename_i hn
        refine any_true s f (pos + 1) (by omega) i ?_ hs hb
        rcases Nat.lt_or_ge pos i with h2 | h2
        · omega
        · obtain rfl : i = pos := by omega
          exact absurd hb hn
    · rw [if_pos (badR_high (dec_high s pos h))]
theorem any_false (s : ByteArray) : ∀ f pos, (∀ i, pos ≤ i → i < s.size → badR (s.get! i).toNat = false) → anyRune badR s f pos = false
  | 0, pos, h => rfl
  | f + 1, pos, h => by
    rw [anyRune]
    split
    · rename_i hp
      have hb := h pos (Nat.le_refl _) hp
      have hlow : (s.get! pos).toNat < 128 := by
        rcases Nat.lt_or_ge (s.get! pos).toNat 128 with h2 | h2
        · exact h2
        · rw [badR_high h2] at hb; cases hb
      rw [dec_low s pos hlow]
      simp only
      rw [if_neg (by rw [hb]; decide)]
      exact any_false s f (pos + 1) (fun i hi => h i (by omega))
    · rfl
/-- Is the byte allowed at that place? -/
def okAt (s : ByteArray) (i : Nat) : Bool := decide ((97 ≤ bt s i ∧ bt s i ≤ 122) ∨ (i ≠ 0 ∧ ((48 ≤ bt s i ∧ bt s i ≤ 57) ∨ bt s i = 45 ∨ bt s i = 95)))
theorem name_bad {s : ByteArray} {i : Nat} (h : i < s.size) (hb : okAt s i = false) : nameOK s = false := by
  unfold okAt at hb
  have hb := of_decide_eq_false hb
  have hg := get_bt s i h
  unfold nameOK
  rw [Bool.and_eq_false_iff]
  by_cases h0 : i = 0
  · subst h0
    left
    exact decide_eq_false (fun hh => hb (Or.inl (by simpa using hh.2.2)))
  · right
    rw [any_true s s.size 0 (by omega) i (by omega) h (by unfold badR; exact decide_eq_true (by omega))]
    rfl
theorem name_good {s : ByteArray} (h : ∀ i, i < s.size → okAt s i = true) : nameOK s = decide (1 ≤ s.size ∧ s.size ≤ 16) := by
  unfold nameOK
  rw [any_false s s.size 0 (fun i _ hi => by
    have h1 := of_decide_eq_true (h i hi)
    have hg := get_bt s i hi
    unfold badR
    exact decide_eq_false (by omega))]
  rw [Bool.not_false, Bool.and_true, Bool.eq_iff_iff, decide_eq_true_iff, decide_eq_true_iff]
  constructor
  · intro hh
    exact ⟨hh.1, hh.2.1⟩
  · intro hh
    have h1 := of_decide_eq_true (h 0 (by omega))
    have h2 : (97 ≤ bt s 0 ∧ bt s 0 ≤ 122) := by
      rcases h1 with h1 | h1
      · exact h1
      · exact absurd rfl h1.1
    exact ⟨hh.1, hh.2, h2⟩
theorem refName_l0 (s : ByteArray) (hl : s.size < 9000000000000000000) : ∀ d j, s.size - j = d → j ≤ s.size → (∀ i, i < s.size → i < j → okAt s i = true) → Ev (fun k => musterref14_Name.l0 k s (j : Int)) (nameOK s)
  | 0, j, hd, hj, hn => Ev.stp (fun k => by rw [musterref14_Name.l0]) <| Ev.neg (by omega) <| by
    rw [name_good (fun i hi => hn i hi (by omega))]
    by_cases h : (s.size : Int) ≥ 1
    · exact Ev.pos h (Ev.one (by rw [Bool.eq_iff_iff]; simp; omega))
    · exact Ev.neg h (Ev.one (by rw [eq_comm, decide_eq_false_iff_not]; omega))
  | d + 1, j, hd, hj, hn => Ev.stp (fun k => by rw [musterref14_Name.l0]) <| Ev.pos (by omega) <| Ev.pos (by omega) <| by
    have hlt : j < s.size := by omega
    have hgo : okAt s j = true → Ev (fun k => musterref14_Name.l0 k s (wrap64 ((j : Int) + 1))) (nameOK s) := fun ho => by
      rw [wr1 (by omega)]
      exact refName_l0 s hl d (j + 1) (by omega) (by omega) (fun i hi hij => by
        rcases Nat.lt_or_ge i j with h3 | h3
        · exact hn i hi h3
        · obtain rfl : i = j := by omega
          exact ho)
    by_cases h : okAt s j = true
    · have hg := hgo h
      have h1 := of_decide_eq_true h
      by_cases c1 : bt s j ≥ 97
      · refine Ev.pos c1 ?_
        by_cases c2 : bt s j ≤ 122
        · exact Ev.pos c2 hg
        · omega
      · refine Ev.neg c1 (Ev.neg (by omega) ?_)
        by_cases c3 : bt s j ≥ 48
        · refine Ev.pos c3 ?_
          by_cases c4 : bt s j ≤ 57
          · exact Ev.pos c4 hg
          · refine Ev.neg c4 ?_
            by_cases c5 : bt s j = 45
            · exact Ev.pos c5 hg
            · exact Ev.neg c5 (Ev.pos (by omega) hg)
        · refine Ev.neg c3 ?_
          by_cases c5 : bt s j = 45
          · exact Ev.pos c5 hg
          · exact Ev.neg c5 (Ev.pos (by omega) hg)
    · have h0 : okAt s j = false := by simpa using h
      rw [name_bad hlt h0]
      have h1 := of_decide_eq_false h0
      have hs : Ev (fun _ : Nat => some false) false := Ev.one rfl
      by_cases c1 : bt s j ≥ 97
      · refine Ev.pos c1 (Ev.neg (by omega) ?_)
        by_cases c0 : (j : Int) = 0
        · exact Ev.pos c0 hs
        · exact Ev.neg c0 (Ev.pos (by omega) (Ev.neg (by omega) (Ev.neg (by omega) (Ev.neg (by omega) hs))))
      · refine Ev.neg c1 ?_
        by_cases c0 : (j : Int) = 0
        · exact Ev.pos c0 hs
        · refine Ev.neg c0 ?_
          by_cases c3 : bt s j ≥ 48
          · exact Ev.pos c3 (Ev.neg (by omega) (Ev.neg (by omega) (Ev.neg (by omega) hs)))
          · exact Ev.neg c3 (Ev.neg (by omega) (Ev.neg (by omega) hs))
theorem refName_ev (s : ByteArray) (hl : s.size < 9000000000000000000) : Ev (fun k => musterref14_Name.f k s) (nameOK s) := by
  have := refName_l0 s hl _ 0 rfl (by omega) (fun i _ h => by omega)
  exact this
end Go.Proofs.Ythcikldhlohjbaa.PT
