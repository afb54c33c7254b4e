/- The laws of Field that do not ask the document: FieldApart, FieldBack. -/
import Derived.Test.YtnhkbjihgepapaaFdPutE
import Derived.Test.YtnhkbjihgepapaaFdGet
set_option linter.unusedVariables false
set_option linter.unusedSimpArgs false
namespace Go.Proofs.Ytnhkbjihgepapaa.Fd
open Go.RowKit Go.Proofs.YtnhkbjihgepapaaW.PrintWords Go.Proofs.YtnhkbjihgepapaaW.PrintLast Go.Proofs.YtnhkbjihgepapaaW.PrintMore Go.Proofs.Ytnhkbjihgepapaa.PF Go.Proofs.Ytnhkbjihgepapaa.Oct Go.Proofs.Ytnhkbjihgepapaa.EvK
attribute [local go_sem] max2_int min2_int max_two min_two max_three min_three max_four min_four
theorem putX_bytes {x : Fl} (hx : rightX x = true) (hw : Wf x) : Bts (putX x) := by
  have hk := kind_range hx
  have hN : ∀ ns : List Int, Bts (ns.flatMap encN) := fun ns z hz => by
    obtain ⟨n, _, h⟩ := List.mem_flatMap.1 hz
    exact be_bytes _ _ z h
  have hT : ∀ ts : List ByteArray, Bts (ts.flatMap encT) := fun ts z hz => by
    obtain ⟨n, _, h⟩ := List.mem_flatMap.1 hz
    exact bytes_append (be_bytes _ _) (bytesOf_bytes _) z h
  unfold putX
  refine bytes_append (fun z hz => ?_) ?_
  · rcases List.mem_cons.1 hz with rfl | hz
    · exact hw.1
    · rw [List.mem_singleton.1 hz]
      omega
  · unfold tailX
    split
    · exact be_bytes _ _
    · split
      · exact bytes_append (be_bytes _ _) (bytesOf_bytes _)
      · split
        · exact bytes_append (be_bytes _ _) (hN _)
        · split
          · exact bytes_append (be_bytes _ _) (hT _)
          · exact fun z hz => (List.not_mem_nil hz).elim
theorem putL_bytes {l : List Fl} (hr : rightL l = true) (hw : ∀ x ∈ l, Wf x) : Bts (putL l) := by
  have hm := rightL_mem hr
  unfold putL
  refine bytes_append (fun z hz => ?_) (fun z hz => ?_)
  · rw [List.mem_singleton.1 hz]
    omega
  · obtain ⟨x, hx, h⟩ := List.mem_flatMap.1 hz
    exact putX_bytes (hm.1 x hx) (hw x hx) z h
theorem putR_says (l : List Fl) : ((putR l).2 = 0 ∧ rightL l = true ∧ (putR l).1 = putL l ∧ (putL l).length ≤ 65000) ∨ ((putR l).2 = 3 ∧ rightL l = true ∧ (putR l).1 = []) ∨ ((putR l).2 = 2 ∧ rightL l = false ∧ (putR l).1 = []) := by
  unfold putR
  cases hr : rightL l with
  | true =>
    rw [if_pos rfl]
    split
    · exact Or.inr (Or.inl ⟨rfl, rfl, rfl⟩)
    · exact Or.inl ⟨rfl, rfl, rfl, by omega⟩
  | false => exact Or.inr (Or.inr ⟨rfl, rfl, rfl⟩)
theorem putR_bytes {l : List Fl} (hw : ∀ x ∈ l, Wf x) : Bts (putR l).1 := by
  rcases putR_says l with ⟨_, h, e, _⟩ | ⟨_, _, e⟩ | ⟨_, _, e⟩
  · rw [e]; exact putL_bytes h hw
  · rw [e]; exact fun z hz => (List.not_mem_nil hz).elim
  · rw [e]; exact fun z hz => (List.not_mem_nil hz).elim
theorem Put_calls (l : List Fl) (A : Option Addr) (c n : Nat) (hn : n = l.length) (w : World) (hr : Kd.C k30 w A l.length l) (hc : l.length ≤ c) (hl : l.length ≤ 9000000000000000) :
    Calls Try.prog 8 #[.slice A n c] w fun e w' => ∃ A' c', e = .returned (.tuple #[.slice A' (putR l).1.length c', .int .i64 (putR l).2]) ∧ (putR l).1.length ≤ c' ∧ Kd.C (Kd.int .u8) w' A' (putR l).1.length (putR l).1 ∧ Below w.heap.size w w' := by
  subst hn
  obtain ⟨k, hk⟩ := Ev.the (Put_ev l hl)
  refine (field_Put.calls k A c l (putR l).1 (putR l).2 w hr hc hk).mono ?_
  rintro e w' ⟨v, rfl, ho, hb⟩
  obtain ⟨A', c', rfl, h1, h2⟩ := Kd.R_reads ho
  exact ⟨A', c', rfl, h1, h2, hb⟩
theorem All_calls (b : List Int) (A : Option Addr) (c n : Nat) (hn : n = b.length) (w : World) (hr : Kd.C (Kd.int .u8) w A b.length b) (hc : b.length ≤ c) (hb : Bts b) (hl : b.length ≤ 140737488355328) :
    Calls Try.prog 11 #[.slice A n c] w fun e w' => ∃ A' c', e = .returned (.tuple #[.slice A' (allF b).1.length c', .int .i64 (allF b).2]) ∧ (allF b).1.length ≤ c' ∧ Kd.C k30 w' A' (allF b).1.length (allF b).1 ∧ Below w.heap.size w w' := by
  subst hn
  refine (all_calls A c b w hr hc (okBytes_iff.2 ⟨hl, hb⟩)).mono ?_
  rintro e w' ⟨v, rfl, ho, hb⟩
  obtain ⟨A', c', rfl, h1, h2⟩ := Kd.S_reads ho
  exact ⟨A', c', rfl, h1, h2, hb⟩
theorem Same_calls (l m : List Fl) (A : Option Addr) (c n : Nat) (hn : n = l.length) (A1 : Option Addr) (c1 n1 : Nat) (hn1 : n1 = m.length) (w : World) (hr : Kd.C k30 w A l.length l) (hc : l.length ≤ c) (hr1 : Kd.C k30 w A1 m.length m) (hc1 : m.length ≤ c1) (hl : l.length < 9000000000000000000) (hm : ∀ x ∈ l, Mem9 x) :
    Calls Try.prog 20 #[.slice A n c, .slice A1 n1 c1] w fun e w' => e = .returned (.bool (decide (l = m))) ∧ Below w.heap.size w w' := by
  subst hn hn1
  obtain ⟨k, hk⟩ := Ev.the (sameFs_ev l m hl hm)
  exact musterlow_SameFields.calls k A c l A1 c1 m _ w hr hc hr1 hc1 hk
theorem Bytes_calls (A : Option Addr) (c n : Nat) (l : List Int) (hn : n = l.length) (A1 : Option Addr) (c1 n1 : Nat) (m : List Int) (hn1 : n1 = m.length) (w : World) (hr : Kd.C (Kd.int .u8) w A l.length l) (hr1 : Kd.C (Kd.int .u8) w A1 m.length m) (hl : Bts l) (hm : Bts m) :
    Calls Try.prog 9 #[.slice A n c, .slice A1 n1 c1] w fun e w' => e = .returned (.bool (decide (l = m))) ∧ Below w.heap.size w w' := by
  subst hn hn1
  exact (Low.same_calls A c l A1 c1 m w hr hr1 hl hm).mono fun e w' h => ⟨h.1, h.2.below⟩
theorem awake_calls (w : World) : Calls Try.prog 13 #[] w fun e w' => e = .returned (.bool true) ∧ Below w.heap.size w w' := by
  obtain ⟨k, hk⟩ := Ev.the awake_ev
  exact musterlaw04_awake.calls k true w hk
theorem apart_bytes {l m : List Fl} (hr : rightL l = true) (hw : ∀ x ∈ l, Wf x) (hr' : rightL m = true) (hw' : ∀ x ∈ m, Wf x) (h : ¬ l = m) (k : Nat) (hk : k = (putL l).length ∨ k = (putL m).length) : ¬ (putL l).take k = (putL m).take k := by
  intro e
  rcases hk with hk | hk
  · rw [hk, List.take_length] at e
    have e' := List.take_append_drop (putL l).length (putL m)
    rw [← e] at e'
    exact h (putL_inj hr hw hr' hw' (z := (putL m).drop (putL l).length) (z' := []) (by rw [List.append_nil]; exact e'))
  · rw [hk, List.take_length] at e
    have e' := List.take_append_drop (putL m).length (putL l)
    rw [e] at e'
    exact h (putL_inj hr hw hr' hw' (z := []) (z' := (putL l).drop (putL m).length) (by rw [List.append_nil]; exact e'.symm))
def BK (w w' : World) : Prop := Below w.heap.size w w'
theorem BK.keep {w w1 w2 : World} (h : BK w w1) (hb : Below w1.heap.size w1 w2) : BK w w2 := below_then h h.size hb
set_option maxRecDepth 100000 in
set_option maxHeartbeats 8000000 in
theorem apart_law (l m : List Fl) (A0 : Option Addr) (c0 : Nat) (A1 : Option Addr) (c1 : Nat) (w : World) (hr0 : Kd.C k30 w A0 l.length l) (hc0 : l.length ≤ c0) (hr1 : Kd.C k30 w A1 m.length m) (hc1 : m.length ≤ c1) (hl : l.length ≤ 9000000000000000) (hm : m.length ≤ 9000000000000000) (wl : ∀ x ∈ l, Wf x ∧ Mem9 x) (wm : ∀ x ∈ m, Wf x ∧ Mem9 x) :
    Calls Try.prog 7 #[.slice A0 l.length c0, .slice A1 m.length c1] w fun e w' => e = .returned (.bool true) ∧ Below w.heap.size w w' := by
  obtain ⟨n0, hn0⟩ : ∃ n, n = l.length := ⟨_, rfl⟩
  obtain ⟨n1, hn1⟩ : ∃ n, n = m.length := ⟨_, rfl⟩
  have HP0 := Lib.hid (Put_calls l A0 c0 n0 hn0 w hr0 hc0 hl)
  have HP1 := Lib.hid (fun W (hb : Below w.heap.size w W) => Put_calls m A1 c1 n1 hn1 W (Kd.C_below hr1 hb) hc1 hm)
  have HSf := Lib.hid (fun W (hb : Below w.heap.size w W) => Same_calls l m A0 c0 n0 hn0 A1 c1 n1 hn1 W (Kd.C_below hr0 hb) hc0 (Kd.C_below hr1 hb) hc1 (by omega) (fun x hx => (wl x hx).2))
  have HS0 := Lib.hid (putR_says l)
  have HS1 := Lib.hid (putR_says m)
  have HB0 := Lib.hid (putR_bytes (fun x hx => (wl x hx).1))
  have HB1 := Lib.hid (putR_bytes (fun x hx => (wm x hx).1))
  have HW := Lib.hid (And.intro wl wm)
  rw [← hn0, ← hn1]
  clear hr0 hc0 hr1 hc1 hl hm wl wm hn0 hn1
  obtain ⟨X, hX⟩ : ∃ X, X = (putR l).1 := ⟨_, rfl⟩
  obtain ⟨ex, hex⟩ : ∃ X, X = (putR l).2 := ⟨_, rfl⟩
  obtain ⟨Y, hY⟩ : ∃ X, X = (putR m).1 := ⟨_, rfl⟩
  obtain ⟨ey, hey⟩ : ∃ X, X = (putR m).2 := ⟨_, rfl⟩
  rw [← hX, ← hex] at HP0 HS0
  rw [← hX] at HB0
  rw [← hY, ← hey] at HP1 HS1
  rw [← hY] at HB1
  obtain ⟨nX, hnX⟩ : ∃ n, n = X.length := ⟨_, rfl⟩
  obtain ⟨nY, hnY⟩ : ∃ n, n = Y.length := ⟨_, rfl⟩
  rw [← hnX] at HP0
  rw [← hnY] at HP1
  have HN := Lib.hid (And.intro hnX hnY)
  clear hX hex hY hey hnX hnY
  go_enter Try.func7, Try.ntmps7
  go_wp2_with fail
  refine HP0.out.mono ?_
  rintro e w1 ⟨AX, cX, rfl, hcX, hrX, hb⟩
  have HX := Lib.hid (And.intro hcX hrX)
  have HBa := Lib.hid hb
  clear hcX hrX hb HP0
  go_wp2_with fail
  refine (HP1.out w1 HBa.out).mono ?_
  rintro e w2 ⟨AY, cY, rfl, hcY, hrY, hb⟩
  have HY := Lib.hid (And.intro hcY hrY)
  have HX2 := Lib.hid (Kd.C_below HX.out.2 hb)
  have HBb := Lib.hid (below_then HBa.out HBa.out.size hb)
  clear hcY hrY hb HP1
  by_cases h00 : ex = 0 ∧ ey = 0
  case neg =>
    have hsum : 0 < ex + ey ∧ ex + ey ≤ 6 := by
      have h1 := HS0.out
      have h2 := HS1.out
      rcases h1 with ⟨h1, _⟩ | ⟨h1, _⟩ | ⟨h1, _⟩ <;> rcases h2 with ⟨h2, _⟩ | ⟨h2, _⟩ | ⟨h2, _⟩ <;> omega
    have hv : wrap64 (ex + ey) = ex + ey := by unfold wrap64; omega
    have hv2 : IntKind.i64.wrap (ex + ey) = ex + ey := by rw [IntKind.wrap_i64]; omega
    have hne : ((ex + ey) != 0) = true := by simp; omega
    have hne2 : ¬ ex + ey = 0 := by omega
    have HAw := Lib.hid (awake_calls w2)
    clear h00
    go_wp2_with fail
    refine HAw.out.mono ?_
    rintro e w3 ⟨rfl, hb⟩
    have HBc := Lib.hid (below_then HBb.out HBb.out.size hb)
    clear hb
    go_wp2
    go_ret
    exact ⟨rfl, HBc.out⟩
  obtain ⟨rfl, rfl⟩ := h00
  have HL0 : Hid (rightL l = true ∧ X = putL l) := Lib.hid (by
    rcases HS0.out with ⟨_, h1, h2, _⟩ | ⟨h, _⟩ | ⟨h, _⟩
    · exact ⟨h1, h2⟩
    · cases h
    · cases h)
  have HL1 : Hid (rightL m = true ∧ Y = putL m) := Lib.hid (by
    rcases HS1.out with ⟨_, h1, h2, _⟩ | ⟨h, _⟩ | ⟨h, _⟩
    · exact ⟨h1, h2⟩
    · cases h
    · cases h)
  have hw0 : wrap64 0 = 0 := by decide +kernel
  clear HS0 HS1
  go_wp2_with fail
  refine (HSf.out w2 HBb.out).mono ?_
  rintro e w3 ⟨rfl, hb⟩
  have HX3 := Lib.hid (Kd.C_below HX2.out hb)
  have HY3 := Lib.hid (Kd.C_below HY.out.2 hb)
  have HBc := Lib.hid (below_then HBb.out HBb.out.size hb)
  clear hb HSf
  by_cases hlm : l = m
  · have HXY : Hid (decide (X = Y) = true) := Lib.hid (decide_eq_true (by rw [HL0.out.2, HL1.out.2, hlm]))
    rw [decide_eq_true hlm]
    have HSb := Lib.hid (Bytes_calls AX cX nX X HN.out.1 AY cY nY Y HN.out.2 w3 (by rw [← HN.out.1]; exact HX3.out) (by rw [← HN.out.2]; exact HY3.out) HB0.out HB1.out)
    rw [HXY.out] at HSb
    clear hlm
    go_wp2_with fail
    refine HSb.out.mono ?_
    rintro e w4 ⟨rfl, hb⟩
    have HBd := Lib.hid (below_then HBc.out HBc.out.size hb)
    clear hb
    go_wp2_with fail
    refine (awake_calls w4).mono ?_
    rintro e w5 ⟨rfl, hb⟩
    have HBe := Lib.hid (below_then HBd.out HBd.out.size hb)
    clear hb
    go_wp2
    go_ret
    exact ⟨rfl, HBe.out⟩
  · rw [decide_eq_false hlm]
    have HLM := Lib.hid hlm
    clear hlm
    go_upto_region 8 with (fail)
    obtain ⟨k, hk, hkl, hk0, hk1⟩ : ∃ k : Nat, (if nY < nX then (nY : Int) else (nX : Int)) = (k : Int) ∧ (k = nX ∨ k = nY) ∧ k ≤ nX ∧ k ≤ nY := by
      by_cases h : nY < nX
      · exact ⟨nY, by rw [if_pos h], Or.inr rfl, by omega, Nat.le_refl _⟩
      · exact ⟨nX, by rw [if_neg h], Or.inl rfl, Nat.le_refl _, by omega⟩
    rw [hk]
    have HNE : Hid (decide (X.take k = Y.take k) = false) := Lib.hid (decide_eq_false (by
      have hx := HL0.out.2
      have hy := HL1.out.2
      rw [hx, hy]
      exact apart_bytes HL0.out.1 (fun x hx => (HW.out.1 x hx).1) HL1.out.1 (fun x hx => (HW.out.2 x hx).1) HLM.out k (by rw [← hx, ← hy, ← HN.out.1, ← HN.out.2]; exact hkl)))
    obtain ⟨i0, hi0, _, hz1, _⟩ := info_parts Low.info8
    have s1 := fun W => Low.cut_h (P := Try.prog) 22 5 Try.underlying22 hi0 hz1 AX nX cX k (by have := HX.out.1; have := HN.out.1; omega) W
    have s2 := fun W => Low.cut_h (P := Try.prog) 22 5 Try.underlying22 hi0 hz1 AY nY cY k (by have := HY.out.1; have := HN.out.2; omega) W
    have HSb := Lib.hid (fun (W : World) (hb : BK w3 W) => show Calls Try.prog 9 #[.slice AX k cX, .slice AY k cY] W fun e w' => e = .returned (.bool false) ∧ Below W.heap.size W w' by
      have h := Bytes_calls AX cX k (X.take k) (by rw [List.length_take, ← HN.out.1]; omega) AY cY k (Y.take k) (by rw [List.length_take, ← HN.out.2]; omega) W (by
        have := Low.take_C (Kd.C_below (by rw [HN.out.1] at HX3; exact HX3.out) hb) k (by rw [← HN.out.1]; exact hk0)
        rw [List.length_take, ← HN.out.1, Nat.min_eq_left hk0]
        exact this) (by
        have := Low.take_C (Kd.C_below (by rw [HN.out.2] at HY3; exact HY3.out) hb) k (by rw [← HN.out.2]; exact hk1)
        rw [List.length_take, ← HN.out.2, Nat.min_eq_left hk1]
        exact this) (fun x hx => HB0.out x (List.mem_of_mem_take hx)) (fun x hx => HB1.out x (List.mem_of_mem_take hx))
      rw [HNE.out] at h
      exact h)
    clear hk hkl hk0 hk1 hi0 hz1
    have hbk : BK w3 w3.drew := below_drew1 (Below.refl _ _)
    go_region_held3 (fun w' => BK w3 w')
      (first | exact BK.keep (by assumption) (by assumption) | exact BK.keep (by assumption) (below_drew1 (Below.refl _ _)) | exact hbk)
      (first
        | (go_at_call 9; refine (HSb.out _ (by assumption)).mono ?_; rintro e w5 ⟨rfl, hb5⟩)
        | (go_at_call 13; refine (awake_calls _).mono ?_; rintro e w6 ⟨rfl, hb6⟩))
    all_goals
      go_wp2
      go_ret
      exact ⟨rfl, below_then HBc.out HBc.out.size (by assumption)⟩
end Go.Proofs.Ytnhkbjihgepapaa.Fd
