/- Tree: the document's Find, Name and Right are the program's. (A part of the print PT.) -/
import Derived.Test.YthcikldhlohjbaaTreeB
import Derived.Lib.MapLaws
set_option linter.unusedVariables false
set_option linter.unusedSimpArgs false
namespace Go.Proofs.Ythcikldhlohjbaa.PT
open Go.RowKit Go.Proofs.YthcikldhlohjbaaW.PrintWords Go.Proofs.YthcikldhlohjbaaW.PrintLast Go.Proofs.YthcikldhlohjbaaW.PrintMore Go.Proofs.Ythcikldhlohjbaa.Gen Go.Proofs.Ythcikldhlohjbaa.EvK
theorem findA_at {l : List S94} {name : ByteArray} {j : Nat} (hj : j < l.length) (h : ∀ i (hi : i < j), isName name (l[i]'(by omega)) = false) (hp : isName name l[j] = true) : findA l name = ((j : Int), true) := by
  unfold findA
  rw [idxOf_at hj h hp]
  have h1 : l.any (isName name) = true := List.any_eq_true.2 ⟨l[j], List.getElem_mem hj, hp⟩
  rw [h1]
  congr 1
  omega
theorem findA_none {l : List S94} {name : ByteArray} (h : ∀ i (hi : i < l.length), isName name l[i] = false) : findA l name = (0, false) := by
  unfold findA
  rw [idxOf_none h]
  have h1 : l.any (isName name) = false := by
    rw [List.any_eq_false]
    intro x hx
    obtain ⟨i, hi, rfl⟩ := List.mem_iff_getElem.1 hx
    simp [h i hi]
  rw [h1]
  rfl
theorem refFind_l0 (l : List S94) (name : ByteArray) (hl : l.length < 9000000000000000000) : ∀ d j, l.length - j = d → j ≤ l.length → (∀ i (hi : i < l.length), i < j → isName name l[i] = false) → Ev (fun k => musterref14_Find.l0 k l name (j : Int)) (findA l name)
  | 0, j, hd, hj, hn => Ev.stp (fun k => by rw [musterref14_Find.l0]) <| Ev.neg (by omega) <| Ev.one (by rw [findA_none (fun i hi => hn i hi (by omega))])
  | d + 1, j, hd, hj, hn => Ev.stp (fun k => by rw [musterref14_Find.l0]) <| Ev.pos (by omega) <| Ev.pos (by omega) <| by
    have hlt : j < l.length := by omega
    rw [rdA l j hlt]
    by_cases h : isName name l[j] = true
    · have h2 : l[j].f0.toList = name.toList := by unfold isName at h; simpa using h
      exact Ev.pos h2 (Ev.one (by rw [findA_at hlt (fun i hi => hn i (by omega) hi) h]))
    · have h2 : ¬ l[j].f0.toList = name.toList := by unfold isName at h; simpa using h
      refine Ev.neg h2 ?_
      rw [wr1 (by omega)]
      refine refFind_l0 l name hl d (j + 1) (by omega) (by omega) (fun i hi hij => ?_)
      rcases Nat.lt_or_ge i j with h3 | h3
      · exact hn i hi h3
      · obtain rfl : i = j := by omega
        simpa using h
theorem refFind_ev (l : List S94) (name : ByteArray) (hl : l.length < 9000000000000000000) : Ev (fun k => musterref14_Find.f k l name) (findA l name) := by
  have := refFind_l0 l name hl _ 0 rfl (by omega) (fun i _ h => by omega)
  exact this
/-! ### names -/
theorem get_bt (s : ByteArray) (i : Nat) (h : i < s.size) : ((s.get! i).toNat : Int) = bt s (i : Int) := by
  have h2 := bt_at s (i : Int) (by simpa using h)
  rw [← h2]
  have h3 : s.get! i = s[i] := by
    have : s.get! i = s.data[i]! := rfl
    rw [this, getElem!_pos s.data i h]
    rfl
  rw [h3]
  simp
theorem dec_low (s : ByteArray) (i : Nat) (h : (s.get! i).toNat < 128) : Utf8.decode s i = ((s.get! i).toNat, 1) := by
  rw [Lib.decode_at]
  rcases Lib.decodeN_shape (s.size - i) (s.get! i).toNat (s.get! (i + 1)).toNat (s.get! (i + 2)).toNat (s.get! (i + 3)).toNat with ⟨c, e⟩ | ⟨c1, c2, c3, cv, e⟩ | ⟨c1, c2, c3, c4, cv, cs, e⟩ | ⟨c1, c2, c3, c4, c5, cv, cw, e⟩ | e
  · exact e
  · omega
  · omega
  · omega
  · unfold Lib.decodeN at e ⊢
    rw [if_pos h]
theorem dec_high (s : ByteArray) (i : Nat) (h : 128 ≤ (s.get! i).toNat) : 128 ≤ (Utf8.decode s i).1 := by
  rw [Lib.decode_at]
  rcases Lib.decodeN_shape (s.size - i) (s.get! i).toNat (s.get! (i + 1)).toNat (s.get! (i + 2)).toNat (s.get! (i + 3)).toNat with ⟨c, e⟩ | ⟨c1, c2, c3, cv, e⟩ | ⟨c1, c2, c3, c4, cv, cs, e⟩ | ⟨c1, c2, c3, c4, c5, cv, cw, e⟩ | e <;> first | omega | (rw [e]; simp only; omega)
theorem badR_high {x : Nat} (h : 128 ≤ x) : badR x = true := by unfold badR; exact decide_eq_true (by omega)
theorem any_true (s : ByteArray) : ∀ f pos, s.size ≤ pos + f → ∀ i, pos ≤ i → i < s.size → badR (s.get! i).toNat = true → anyRune badR s f pos = true
  | 0, pos, hf, i, hi, hs, hb => by omega
  | f + 1, pos, hf, i, hi, hs, hb => by
    rw [anyRune, if_pos (by omega)]
    rcases Nat.lt_or_ge (s.get! pos).toNat 128 with h | h
    · rw [dec_low s pos h]
      simp only
      split
      · rfl
      · rename_i hn
        refine any_true s f (pos + 1) (by omega) i ?_ hs hb
        rcases Nat.lt_or_ge pos i with h2 | h2
        · omega
        · obtain rfl : i = pos := by omega
          exact absurd hb hn
    · rw [if_pos (badR_high (dec_high s pos h))]
theorem any_false (s : ByteArray) : ∀ f pos, (∀ i, pos ≤ i → i < s.size → badR (s.get! i).toNat = false) → anyRune badR s f pos = false
  | 0, pos, h => rfl
  | f + 1, pos, h => by
    rw [anyRune]
    split
    · rename_i hp
      have hb := h pos (Nat.le_refl _) hp
      have hlow : (s.get! pos).toNat < 128 := by
        rcases Nat.lt_or_ge (s.get! pos).toNat 128 with h2 | h2
        · exact h2
        · rw [badR_high h2] at hb; cases hb
      rw [dec_low s pos hlow]
      simp only
      rw [if_neg (by rw [hb]; decide)]
      exact any_false s f (pos + 1) (fun i hi => h i (by omega))
    · rfl
/-- Is the byte allowed at that place? -/
def okAt (s : ByteArray) (i : Nat) : Bool := decide ((97 ≤ bt s i ∧ bt s i ≤ 122) ∨ (i ≠ 0 ∧ ((48 ≤ bt s i ∧ bt s i ≤ 57) ∨ bt s i = 45 ∨ bt s i = 95)))
theorem name_bad {s : ByteArray} {i : Nat} (h : i < s.size) (hb : okAt s i = false) : nameOK s = false := by
  unfold okAt at hb
  have hb := of_decide_eq_false hb
  have hg := get_bt s i h
  unfold nameOK
  rw [Bool.and_eq_false_iff]
  by_cases h0 : i = 0
  · subst h0
    left
    exact decide_eq_false (fun hh => hb (Or.inl (by simpa using hh.2.2)))
  · right
    rw [any_true s s.size 0 (by omega) i (by omega) h (by unfold badR; exact decide_eq_true (by omega))]
    rfl
theorem name_good {s : ByteArray} (h : ∀ i, i < s.size → okAt s i = true) : nameOK s = decide (1 ≤ s.size ∧ s.size ≤ 16) := by
  unfold nameOK
  rw [any_false s s.size 0 (fun i _ hi => by
    have h1 := of_decide_eq_true (h i hi)
    have hg := get_bt s i hi
    unfold badR
    exact decide_eq_false (by omega))]
  rw [Bool.not_false, Bool.and_true, Bool.eq_iff_iff, decide_eq_true_iff, decide_eq_true_iff]
  constructor
  · intro hh
    exact ⟨hh.1, hh.2.1⟩
  · intro hh
    have h1 := of_decide_eq_true (h 0 (by omega))
    have h2 : (97 ≤ bt s 0 ∧ bt s 0 ≤ 122) := by
      rcases h1 with h1 | h1
      · exact h1
      · exact absurd rfl h1.1
    exact ⟨hh.1, hh.2, h2⟩
theorem refName_l0 (s : ByteArray) (hl : s.size < 9000000000000000000) : ∀ d j, s.size - j = d → j ≤ s.size → (∀ i, i < s.size → i < j → okAt s i = true) → Ev (fun k => musterref14_Name.l0 k s (j : Int)) (nameOK s)
  | 0, j, hd, hj, hn => Ev.stp (fun k => by rw [musterref14_Name.l0]) <| Ev.neg (by omega) <| by
    rw [name_good (fun i hi => hn i hi (by omega))]
    by_cases h : (s.size : Int) ≥ 1
    · exact Ev.pos h (Ev.one (by rw [Bool.eq_iff_iff]; simp; omega))
    · exact Ev.neg h (Ev.one (by rw [eq_comm, decide_eq_false_iff_not]; omega))
  | d + 1, j, hd, hj, hn => Ev.stp (fun k => by rw [musterref14_Name.l0]) <| Ev.pos (by omega) <| Ev.pos (by omega) <| by
    have hlt : j < s.size := by omega
    have hgo : okAt s j = true → Ev (fun k => musterref14_Name.l0 k s (wrap64 ((j : Int) + 1))) (nameOK s) := fun ho => by
      rw [wr1 (by omega)]
      exact refName_l0 s hl d (j + 1) (by omega) (by omega) (fun i hi hij => by
        rcases Nat.lt_or_ge i j with h3 | h3
        · exact hn i hi h3
        · obtain rfl : i = j := by omega
          exact ho)
    by_cases h : okAt s j = true
    · have hg := hgo h
      have h1 := of_decide_eq_true h
      by_cases c1 : bt s j ≥ 97
      · refine Ev.pos c1 ?_
        by_cases c2 : bt s j ≤ 122
        · exact Ev.pos c2 hg
        · omega
      · refine Ev.neg c1 (Ev.neg (by omega) ?_)
        by_cases c3 : bt s j ≥ 48
        · refine Ev.pos c3 ?_
          by_cases c4 : bt s j ≤ 57
          · exact Ev.pos c4 hg
          · refine Ev.neg c4 ?_
            by_cases c5 : bt s j = 45
            · exact Ev.pos c5 hg
            · exact Ev.neg c5 (Ev.pos (by omega) hg)
        · refine Ev.neg c3 ?_
          by_cases c5 : bt s j = 45
          · exact Ev.pos c5 hg
          · exact Ev.neg c5 (Ev.pos (by omega) hg)
    · have h0 : okAt s j = false := by simpa using h
      rw [name_bad hlt h0]
      have h1 := of_decide_eq_false h0
      have hs : Ev (fun _ : Nat => some false) false := Ev.one rfl
      by_cases c1 : bt s j ≥ 97
      · refine Ev.pos c1 (Ev.neg (by omega) ?_)
        by_cases c0 : (j : Int) = 0
        · exact Ev.pos c0 hs
        · exact Ev.neg c0 (Ev.pos (by omega) (Ev.neg (by omega) (Ev.neg (by omega) (Ev.neg (by omega) hs))))
      · refine Ev.neg c1 ?_
        by_cases c0 : (j : Int) = 0
        · exact Ev.pos c0 hs
        · refine Ev.neg c0 ?_
          by_cases c3 : bt s j ≥ 48
          · exact Ev.pos c3 (Ev.neg (by omega) (Ev.neg (by omega) (Ev.neg (by omega) hs)))
          · exact Ev.neg c3 (Ev.neg (by omega) (Ev.neg (by omega) hs))
theorem refName_ev (s : ByteArray) (hl : s.size < 9000000000000000000) : Ev (fun k => musterref14_Name.f k s) (nameOK s) := by
  have := refName_l0 s hl _ 0 rfl (by omega) (fun i _ h => by omega)
  exact this
theorem find_at2 (l : List S94) (A : Option Addr) (c n : Nat) (hn : l.length = n) (hl : n < 9000000000000000000) (name : ByteArray) (w : World) (hr : Kd.C k94 w A n l) (hc : n ≤ c) :
    Calls Try.prog 63 #[.slice A n c, .string name] w fun e w' => e = .returned (.tuple #[.int .i64 (findA l name).1, .bool (findA l name).2]) ∧ Below w.heap.size w w' := by
  subst hn
  obtain ⟨k, hk⟩ := Ev.the (refFind_ev l name hl)
  obtain ⟨⟨r1, r2⟩, hr2⟩ : ∃ r, r = findA l name := ⟨_, rfl⟩
  rw [← hr2] at hk ⊢
  refine (musterref14_Find.calls k A c l name r1 r2 w hr hc hk).mono ?_
  rintro e w' ⟨rfl, hd⟩
  exact ⟨rfl, hd.below⟩
theorem name_calls2 (s : ByteArray) (hl : s.size < 9000000000000000000) (w : World) : Calls Try.prog 67 #[.string s] w fun e w' => e = .returned (.bool (nameOK s)) ∧ Below w.heap.size w w' := by
  obtain ⟨k, hk⟩ := Ev.the (refName_ev s hl)
  refine (musterref14_Name.calls k s (nameOK s) w hk).mono ?_
  rintro e w' ⟨rfl, hd⟩
  exact ⟨rfl, hd.below⟩
set_option maxRecDepth 100000 in
set_option maxHeartbeats 2000000 in
theorem refRight_calls (l : List S94) (A : Option Addr) (c : Nat) (w : World) (hl9 : l.length < 9000000000000000000) (hz : ∀ x ∈ l, x.f0.size < 9000000000000000000) (hr : Kd.C k94 w A l.length l) (hc : l.length ≤ c) :
    Calls Try.prog 65 #[.slice A l.length c] w fun e w' => e = .returned (.bool (rightA l)) ∧ Below w.heap.size w w' := by
  have hln : l.length ≤ 9223372036854775807 := hr.2.1
  have hr9 := Lib.hid hl9
  clear hl9
  have HZ := Lib.hid hz
  clear hz
  have HR := Lib.hid hr
  have HC := Lib.hid hc
  have HB0 := Lib.hid (Below.refl w.heap.size w)
  clear hr hc
  go_enter Try.func65, Try.ntmps65
  go_wp2
  go_loopw [3] (fun i wr => ∃ j : Nat, j ≤ l.length ∧ i = .int .i64 j ∧ Hid (allA l j = true) ∧ Hid (Below w.heap.size w wr)) (fun i _ => l.length - (intOf i).toNat)
  case atStart => exact ⟨0, Nat.zero_le _, rfl, Lib.hid rfl, HB0⟩
  case round =>
    obtain ⟨j, hj, rfl, HT, HB⟩ := hrel
    by_cases hlt : j < l.length
    · have p1 : 0 ≤ (j : Int) := by omega
      have q1 : (j : Int) < (l.length : Int) := by omega
      obtain ⟨ad, e1, hx0, hx1, hx2⟩ := at_T94 HR.out (j : Int) p1 q1
      rw [rdA l j hlt] at hx0 hx1 hx2
      cases e1
      replace hx0 := (HB.out.cell (World.block_lt_of_cell? w _ hx0)).trans hx0
      replace hx1 := (HB.out.cell (World.block_lt_of_cell? w _ hx1)).trans hx1
      replace hx2 := (HB.out.cell (World.block_lt_of_cell? w _ hx2)).trans hx2
      rw [Int.toNat_natCast] at hx0 hx1 hx2
      go_upto_region 5 with (fail)
      generalize hWD : wr.alloc (.cells _ 94) = WD
      obtain ⟨b, hbd⟩ : ∃ b, b = wr.heap.size := ⟨_, rfl⟩
      rw [← hbd]
      have hS : RH w (some ad) l b l[j] WD := by
        have hb := below_alloc (Below.refl _ wr) (.cells #[.string l[j].f0, .string l[j].f1, .int .i64 l[j].f2] 94)
        rw [hWD] at hb
        exact ⟨by rw [← hWD, hbd]; exact box_cell _ _ _ _ _ rfl, by rw [← hWD, hbd]; exact box_cell _ _ _ _ _ rfl, by rw [← hWD, hbd]; exact box_cell _ _ _ _ _ rfl, Kd.C_below HR.out (below_then HB.out HB.out.size hb), below_then HB.out HB.out.size hb⟩
      clear hWD hbd hx0 hx1 hx2
      have hzx : l[j].f0.size < 9000000000000000000 := HZ.out _ (List.getElem_mem hlt)
      generalize hx : l[j] = x at hS hzx ⊢
      have HZX := Lib.hid hzx
      clear hzx
      replace hx := Lib.hid hx
      have pj : (j : Int) ≤ (c : Int) := by have := HC.out; omega
      unfold RH at hS
      have hj9 : j < 9000000000000000000 := by have h1 := hr9.out; omega
      obtain ⟨⟨i1, t1⟩, hf1⟩ : ∃ r, r = findA (l.take j) x.f0 := ⟨_, rfl⟩
      obtain ⟨⟨i2, t2⟩, hf2⟩ : ∃ r, r = findA (l.take j) x.f1 := ⟨_, rfl⟩
      have HF1 : Hid (∀ W, Kd.C k94 W (some ad) l.length l → Calls Try.prog 63 #[.slice (some ad) j c, .string x.f0] W fun e w' => e = .returned (.tuple #[.int .i64 i1, .bool t1]) ∧ Below W.heap.size W w') := Lib.hid (fun W hW => by
        have h := find_at2 (l.take j) (some ad) c j (by rw [List.length_take]; omega) hj9 x.f0 W (C_takeN hW j hj) (by omega)
        rwa [← hf1] at h)
      have HF2 : Hid (∀ W, Kd.C k94 W (some ad) l.length l → Calls Try.prog 63 #[.slice (some ad) j c, .string x.f1] W fun e w' => e = .returned (.tuple #[.int .i64 i2, .bool t2]) ∧ Below W.heap.size W w') := Lib.hid (fun W hW => by
        have h := find_at2 (l.take j) (some ad) c j (by rw [List.length_take]; omega) hj9 x.f1 W (C_takeN hW j hj) (by omega)
        rwa [← hf2] at h)
      have HN : Hid (∀ W, Calls Try.prog 67 #[.string x.f0] W fun e w' => e = .returned (.bool (nameOK x.f0)) ∧ Below W.heap.size W w') := Lib.hid (fun W => name_calls2 x.f0 HZX.out W)
      have HO : Hid (okA (l.take j) x = (!t1 && nameOK x.f0 && (t2 || x.f1.toList.isEmpty) && decide (-1 ≤ x.f2 ∧ x.f2 ≤ 1073741824))) := Lib.hid (by unfold okA; rw [← hf1, ← hf2])
      have HA : Hid (allA l (j + 1) = okA (l.take j) x) := Lib.hid (by rw [allA_step l j hlt, HT.out, Bool.true_and, hx.out])
      clear hf1 hf2 hx
      generalize nameOK x.f0 = nm at HN HO
      go_cut [6] (fun v6 wc => v6 = .bool t1 ∧ (wc.cell? ⟨b, 0, none⟩ = some (.string x.f0) ∧ wc.cell? ⟨b, 1, none⟩ = some (.string x.f1) ∧ wc.cell? ⟨b, 2, none⟩ = some (.int .i64 x.f2) ∧ Kd.C k94 wc (some ad) l.length l ∧ Below w.heap.size w wc))
      case first =>
        go_region_held3 (fun w' => w'.cell? ⟨b, 0, none⟩ = some (.string x.f0) ∧ w'.cell? ⟨b, 1, none⟩ = some (.string x.f1) ∧ w'.cell? ⟨b, 2, none⟩ = some (.int .i64 x.f2) ∧ Kd.C k94 w' (some ad) l.length l ∧ Below w.heap.size w w')
          (first | exact RH.keep (by assumption) (by assumption) | exact RH.keep (by assumption) (below_drew1 (Below.refl _ _)))
          ((go_at_call 63; refine (HF1.out _ (RH.row (by assumption))).mono ?_; rintro e w2 ⟨rfl, hb2⟩))
        all_goals
          go_wp2
          go_meet
          case rel => exact ⟨rfl, by assumption⟩
      case rest =>
        clear hS
        obtain ⟨rfl, hS⟩ := hcut
        go_upto_region 6 with (fail)
        go_cut [8] (fun v8 wc => v8 = .bool t2 ∧ (wc.cell? ⟨b, 0, none⟩ = some (.string x.f0) ∧ wc.cell? ⟨b, 1, none⟩ = some (.string x.f1) ∧ wc.cell? ⟨b, 2, none⟩ = some (.int .i64 x.f2) ∧ Kd.C k94 wc (some ad) l.length l ∧ Below w.heap.size w wc))
        case first =>
          go_region_held3 (fun w' => w'.cell? ⟨b, 0, none⟩ = some (.string x.f0) ∧ w'.cell? ⟨b, 1, none⟩ = some (.string x.f1) ∧ w'.cell? ⟨b, 2, none⟩ = some (.int .i64 x.f2) ∧ Kd.C k94 w' (some ad) l.length l ∧ Below w.heap.size w w')
            (first | exact RH.keep (by assumption) (by assumption) | exact RH.keep (by assumption) (below_drew1 (Below.refl _ _)))
            ((go_at_call 63; refine (HF2.out _ (RH.row (by assumption))).mono ?_; rintro e w2 ⟨rfl, hb2⟩))
          all_goals
            go_wp2
            go_meet
            case rel => exact ⟨rfl, by assumption⟩
        case rest =>
          clear hS
          obtain ⟨rfl, hS⟩ := hcut
          obtain ⟨g0, g1, g2, g3, g4⟩ := hS
          have HB4 := Lib.hid g4
          have G0 := Lib.hid g0
          have G1 := Lib.hid g1
          have G2 := Lib.hid g2
          clear g3 g4 HF1 HF2
          have g0 := G0.out
          have g1 := G1.out
          have g2 := G2.out
          obtain ⟨vb, hvb⟩ : ∃ vb, vb = okA (l.take j) x := ⟨_, rfl⟩
          rw [← hvb] at HO HA
          replace hvb := Lib.hid hvb
          go_wp2_with fail
          refine (HN.out _).mono ?_
          rintro e w5 ⟨rfl, hb5⟩
          replace g0 := (hb5.cell (World.block_lt_of_cell? _ _ g0)).trans g0
          replace g1 := (hb5.cell (World.block_lt_of_cell? _ _ g1)).trans g1
          replace g2 := (hb5.cell (World.block_lt_of_cell? _ _ g2)).trans g2
          replace HB4 := Lib.hid (below_then HB4.out HB4.out.size hb5)
          clear hb5 G0 G1 G2
          obtain ⟨em, hem⟩ : ∃ em, em = x.f1.toList.isEmpty := ⟨_, rfl⟩
          rw [← hem] at HO
          have hem2 : x.f1.toList.isEmpty = em := hem.symm
          have hem3 : em = true → x.f1.toList = [] := fun h => by rw [h] at hem2; simpa using hem2
          have hem4 : em = false → ¬ x.f1.toList = [] := fun h h2 => by rw [h, h2] at hem2; cases hem2
          clear hem
          have HE := Lib.hid hem2
          clear hem2
          have bad : Hid (vb = false → rightA l = false) := Lib.hid (fun hv => by
            unfold rightA
            rw [allA_bad l (j + 1) (by rw [HA.out, hv]) l.length (by omega)]
            rfl)
          have good : Hid (vb = true → allA l (j + 1) = true) := Lib.hid (fun hv => by rw [HA.out, hv])
          cases nm <;> cases t1 <;> cases t2 <;> cases em <;> by_cases hl1 : x.f2 < -1 <;> by_cases hl2 : 1073741824 < x.f2
          all_goals
            first
            | (exfalso; omega)
            | skip
          all_goals
            first
            | (have HV : Hid (vb = false) := Lib.hid (by rw [HO.out]; first | rfl | (rw [decide_eq_false (by omega)]; rfl))
               have HS : Hid True := Lib.hid trivial
               first | (have hq := hem3 rfl) | (have hq := hem4 rfl)
               clear hem3 hem4
               have hz := HE.out
               clear HE
               go_wp2
               go_ret
               exact ⟨by rw [bad.out HV.out]; rfl, HB4.out⟩)
            | (have HV : Hid (vb = true) := Lib.hid (by rw [HO.out]; first | rfl | (rw [decide_eq_true (by omega)]; rfl))
               first | (have hq := hem3 rfl) | (have hq := hem4 rfl)
               clear hem3 hem4
               have hz := HE.out
               clear HE
               have HG := Lib.hid (good.out HV.out)
               clear good bad HV
               go_wp2
               go_roundw
               case rel => exact ⟨j + 1, by omega, by go_num, HG, HB4⟩
               case measure => simp [intOf]; omega)
    · obtain rfl : j = l.length := by omega
      by_cases h1 : 1 ≤ l.length
      · have HV : Hid (rightA l = decide ((l.length : Int) ≤ 16)) := Lib.hid (by unfold rightA; rw [HT.out, Bool.eq_iff_iff]; simp; omega)
        go_wp2
        go_ret
        exact ⟨by rw [HV.out]; rfl, HB.out⟩
      · have HV : Hid (rightA l = false) := Lib.hid (by unfold rightA; rw [HT.out]; simp [h1])
        go_wp2
        go_ret
        exact ⟨by rw [HV.out]; rfl, HB.out⟩
end Go.Proofs.Ythcikldhlohjbaa.PT
