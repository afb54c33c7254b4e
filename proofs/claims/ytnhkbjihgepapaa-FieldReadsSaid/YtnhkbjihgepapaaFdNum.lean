/- field.All's closures: a number, a text, off the bytes. -/
import Derived.Test.YtnhkbjihgepapaaPFx0
import Derived.Test.YtnhkbjihgepapaaFdOct
import Derived.Shelf.Abstract
set_option linter.unusedVariables false
set_option linter.unusedSimpArgs false
namespace Go.Proofs.Ytnhkbjihgepapaa.Fd
open Go.RowKit Go.Proofs.YtnhkbjihgepapaaW.PrintWords Go.Proofs.YtnhkbjihgepapaaW.PrintLast Go.Proofs.YtnhkbjihgepapaaW.PrintMore Go.Proofs.Ytnhkbjihgepapaa.PF Go.Proofs.Ytnhkbjihgepapaa.Oct
/-- What the closures share: the bytes, the place, whether it is bad. -/
structure AM (w W : World) (bB bA bD : Nat) (A : Option Addr) (n c : Nat) (p : Int) (bad : Bool) : Prop where
  bel : Below w.heap.size w W
  gB : w.heap.size ≤ bB
  gA : w.heap.size ≤ bA
  gD : w.heap.size ≤ bD
  nBA : bB ≠ bA
  nBD : bB ≠ bD
  nAD : bA ≠ bD
  B : W.heap[bB]? = some (.cells #[.slice A n c] 22 (0, 0))
  a : W.heap[bA]? = some (.cells #[.int .i64 p] 3 (0, 0))
  d : W.heap[bD]? = some (.cells #[.bool bad] 4 (0, 0))
section
variable {w W W2 : World} {bB bA bD : Nat} {A : Option Addr} {n c : Nat} {p : Int} {bad : Bool}
theorem AM.setA (h : AM w W bB bA bD A n c p bad) (q : Int) : AM w (W.setCell ⟨bA, 0, none⟩ (.int .i64 q)) bB bA bD A n c q bad :=
  ⟨below_set h.bel h.gA, h.gB, h.gA, h.gD, h.nBA, h.nBD, h.nAD, blk_far h.B h.nBA _, blk_set h.a 0 _, blk_far h.d h.nAD.symm _⟩
theorem AM.setD (h : AM w W bB bA bD A n c p bad) (b : Bool) : AM w (W.setCell ⟨bD, 0, none⟩ (.bool b)) bB bA bD A n c p b :=
  ⟨below_set h.bel h.gD, h.gB, h.gA, h.gD, h.nBA, h.nBD, h.nAD, blk_far h.B h.nBD _, blk_far h.a h.nAD _, blk_set h.d 0 _⟩
theorem AM.below (h : AM w W bB bA bD A n c p bad) (hb : Below W.heap.size W W2) : AM w W2 bB bA bD A n c p bad :=
  ⟨below_then h.bel h.bel.size hb, h.gB, h.gA, h.gD, h.nBA, h.nBD, h.nAD, (hb.block _ (blk_lt h.B)).trans h.B, (hb.block _ (blk_lt h.a)).trans h.a, (hb.block _ (blk_lt h.d)).trans h.d⟩
/-- What a call of a closure may write. -/
def SAD (bA bD : Nat) (k : Nat) : Prop := k = bA ∨ k = bD
theorem kept_setA (h : Kept W W2 (SAD bA bD)) (u : Value) : Kept W (W2.setCell ⟨bA, 0, none⟩ u) (SAD bA bD) := h.setCell (Or.inl (Or.inl rfl)) u
theorem kept_setD (h : Kept W W2 (SAD bA bD)) (u : Value) : Kept W (W2.setCell ⟨bD, 0, none⟩ u) (SAD bA bD) := h.setCell (Or.inl (Or.inr rfl)) u
end
/-- Are the first j there? -/
def okj (l : List Int) (p : Int) (j : Nat) : Bool := decide (j = 0) || nok l p j
theorem nok_iff {l : List Int} {p : Int} {n : Nat} : nok l p n = true ↔ 0 ≤ p ∧ p + n ≤ l.length := by
  unfold nok
  rw [Bool.and_eq_true, decide_eq_true_iff, decide_eq_true_iff]
theorem okj_step (l : List Int) (p : Int) (j : Nat) (h0 : 0 ≤ p) : okj l p (j + 1) = (okj l p j && nok l (p + j) 1) := by
  unfold okj
  rw [decide_eq_false (by omega), Bool.false_or, Bool.eq_iff_iff, Bool.and_eq_true, Bool.or_eq_true, decide_eq_true_iff, nok_iff, nok_iff, nok_iff]
  omega
theorem nv_step {l : List Int} {p : Int} {j : Nat} (h : nok l p (j + 1) = true) : nv l p (j + 1) = nv l p j * 256 + nv l (p + j) 1 := by
  obtain ⟨h0, h1⟩ := nok_iff.1 h
  obtain ⟨q, rfl⟩ := Int.eq_ofNat_of_zero_le h0
  have e1 : nok l (q : Int) j = true := nok_iff.2 (by omega)
  have e2 : nok l ((q : Int) + j) 1 = true := nok_iff.2 (by omega)
  unfold nv
  rw [if_pos h, if_pos e1, if_pos e2, show ((q : Int) + (j : Int)).toNat = q + j by omega, Int.toNat_natCast, seg_snoc l q j (by omega), num_snoc]
  have hs := seg_snoc l (q + j) 0 (by omega)
  rw [Nat.zero_add, List.take_zero, List.nil_append] at hs
  rw [hs, Nat.add_zero]
  unfold num
  simp
theorem pow_step {v x : Int} {j : Nat} (h0 : 0 ≤ v) (h1 : v < 256 ^ j) (h2 : 0 ≤ x) (h3 : x ≤ 255) : 0 ≤ v * 256 + x ∧ v * 256 + x < 256 ^ (j + 1) := by
  rw [Int.pow_succ]
  omega
set_option maxRecDepth 100000 in
set_option maxHeartbeats 4000000 in
theorem number_calls {w W : World} {bB bA bD : Nat} {A : Option Addr} {c : Nat} {l : List Int} {p : Int} {bad : Bool} (h : AM w W bB bA bD A l.length c p bad) (hr : Kd.C (Kd.int .u8) w A l.length l) (hb : ∀ x ∈ l, 0 ≤ x ∧ x ≤ 255) (hl : l.length ≤ 140737488355328) (h0 : 0 ≤ p) (h1 : p ≤ 1000000000000000000) (n : Nat) (hn1 : 1 ≤ n) (hn : n ≤ 8) :
    Calls Try.prog 29 #[.int .i64 n, .pointer (some ⟨bB, 0, none⟩), .pointer (some ⟨bA, 0, none⟩), .pointer (some ⟨bD, 0, none⟩)] W fun e W' => ∃ v : Int, e = .returned (.int .u64 v) ∧ (0 ≤ v ∧ v < 18446744073709551616 ∧ (nok l p n = true → v = nv l p n)) ∧ AM w W' bB bA bD A l.length c (p + n) (bad || !nok l p n) ∧ Kept W W' (SAD bA bD) := by
  have HA := Lib.hid h
  have HR := Lib.hid hr
  have HB := Lib.hid hb
  have HL := Lib.hid hl
  have hAD := h.nAD
  obtain ⟨m, hm⟩ : ∃ m, m = l.length := ⟨_, rfl⟩
  rw [← hm] at HA
  have HM := Lib.hid hm
  clear hm h hr hb hl
  go_enter Try.func29, Try.ntmps29
  go_wp2
  go_loopw [6, 10] (fun v6 v10 wr => ∃ (j : Nat) (v : Int), j ≤ n ∧ v6 = .int .u64 v ∧ v10 = .int .i64 j ∧ Hid (0 ≤ v ∧ v < 256 ^ j ∧ (okj l p j = true → j = 0 ∨ v = nv l p j) ∧ (j = 0 → v = 0)) ∧ Hid (AM w wr bB bA bD A m c (p + j) (bad || !okj l p j)) ∧ Hid (Kept W wr (SAD bA bD))) (fun _ v10 _ => n - (intOf v10).toNat)
  case atStart => exact ⟨0, 0, Nat.zero_le _, rfl, rfl, Lib.hid ⟨Int.le_refl _, by decide, fun _ => Or.inl rfl, fun _ => rfl⟩, Lib.hid (by simpa [okj] using HA.out), Lib.hid (Kept.refl _ _)⟩
  case round =>
    obtain ⟨j, v, hj, rfl, rfl, HV, H, HK⟩ := hrel
    by_cases hlt : j < n
    · obtain ⟨q, hq⟩ : ∃ q, q = p + j := ⟨_, rfl⟩
      obtain ⟨b1, hb1⟩ : ∃ b, b = (bad || !okj l p j) := ⟨_, rfl⟩
      rw [← hq, ← hb1] at H
      have hq0 : 0 ≤ q := by omega
      have hq1 : q ≤ 1000000000000000010 := by omega
      have HU := Lib.hid (u8_calls A c l q wr (Kd.C_below HR.out H.out.bel) HB.out HL.out ⟨by omega, by omega⟩)
      have HX := Lib.hid (nv_range l HB.out q 1)
      have HS := Lib.hid (okj_step l p j h0)
      have HN := Lib.hid (fun h => nv_step (l := l) (p := p) (j := j) h)
      rw [← hq] at HS HN
      rw [← HM.out] at HU
      obtain ⟨b2, hb2⟩ : ∃ b, b = nok l q 1 := ⟨_, rfl⟩
      obtain ⟨x, hx⟩ : ∃ x, x = nv l q 1 := ⟨_, rfl⟩
      rw [← hb2, ← hx] at HU
      rw [← hb2] at HS
      rw [← hx] at HX HN
      have hxr := HX.out
      have hx0 : 0 ≤ x := hxr.1
      have hx1 : x ≤ 255 := by have := hxr.2; omega
      have hpw := pow7 j (by omega)
      have hv0 : 0 ≤ v := HV.out.1
      have hv1 : v < 72057594037927936 := by have := HV.out.2.1; omega
      have HO := Lib.hid (or_byte v x hv0 hv1 hx0 hx1)
      have HP := Lib.hid (pow_step hv0 HV.out.2.1 hx0 hx1)
      have HQ := Lib.hid hq
      have HB1 := Lib.hid hb1
      have cB : wr.cell? ⟨bB, 0, none⟩ = some (.slice A m c) := (blk_cell H.out.B 0).trans rfl
      have cA : wr.cell? ⟨bA, 0, none⟩ = some (.int .i64 q) := (blk_cell H.out.a 0).trans rfl
      have cD : wr.cell? ⟨bD, 0, none⟩ = some (.bool b1) := (blk_cell H.out.d 0).trans rfl
      have zA : wr.frozen? ⟨bA, 0, none⟩ = false := blk_frozen H.out.a 0
      have zD : wr.frozen? ⟨bD, 0, none⟩ = false := blk_frozen H.out.d 0
      have w1 : IntKind.i64.wrap (q + 1) = q + 1 := by rw [IntKind.wrap_i64]; omega
      have w2 : wrap64 (q + 1) = q + 1 := by unfold wrap64; omega
      clear hq hb1 hb2 hx hxr hpw HX
      have H2 := Lib.hid (fun b => (H.out.setD b).setA (q + 1))
      have HK2 := Lib.hid (fun (b : Bool) => kept_setA (kept_setD HK.out (.bool b)) (.int .i64 (q + 1)))
      go_wp2_with fail
      refine HU.out.mono ?_
      rintro e w3 ⟨rfl, rfl⟩
      clear HU
      have fin : ∀ b, b = (b1 || !b2) → b = (bad || !okj l p (j + 1)) := fun b hb => by rw [hb, HS.out, HB1.out]; cases bad <;> cases okj l p j <;> cases b2 <;> rfl
      have HF := Lib.hid fin
      clear fin
      have HVN : Hid (okj l p (j + 1) = true → v * 256 + x = nv l p (j + 1)) := Lib.hid (fun hk => by
        have hk1 : nok l p (j + 1) = true := by unfold okj at hk; rw [decide_eq_false (by omega), Bool.false_or] at hk; exact hk
        have h1 := HN.out hk1
        rw [h1]
        have hkj : okj l p j = true := by
          rw [HS.out, Bool.and_eq_true] at hk
          exact hk.1
        rcases HV.out.2.2.1 hkj with h2 | h2
        · rw [HV.out.2.2.2 h2, h2]
          have : nv l p 0 = 0 := by unfold nv; split <;> rfl
          rw [this]
        · rw [h2])
      clear hq0
      cases b1 <;> cases b2
      all_goals
        go_wp2
        go_roundw
        case rel => exact ⟨j + 1, v * 256 + x, by omega, congrArg (Value.int .u64) HO.out, by go_num, Lib.hid ⟨HP.out.1, HP.out.2, fun hk => Or.inr (HVN.out hk), fun hk => absurd hk (by omega)⟩, Lib.hid (by rw [show p + ((j + 1 : Nat) : Int) = q + 1 by rw [HQ.out]; omega, ← HF.out _ rfl]; exact H2.out _), HK2.out _⟩
        case measure => simp [intOf]; omega
    · obtain rfl : j = n := by omega
      have hok : okj l p j = nok l p j := by unfold okj; rw [decide_eq_false (by omega), Bool.false_or]
      rw [hok] at HV H
      have h64 : (256 : Int) ^ j ≤ 18446744073709551616 := by
        rw [show (18446744073709551616 : Int) = 256 ^ 8 by decide +kernel]
        exact_mod_cast Nat.pow_le_pow_right (by decide) hn
      have HVF : Hid (0 ≤ v ∧ v < 18446744073709551616 ∧ (nok l p j = true → v = nv l p j)) := Lib.hid ⟨HV.out.1, Int.lt_of_lt_of_le HV.out.2.1 h64, fun hk => (HV.out.2.2.1 hk).resolve_left (by omega)⟩
      clear hok HV h64
      rw [HM.out] at H
      go_wp2
      go_ret
      exact ⟨v, rfl, HVF.out, H.out, HK.out⟩
/-- field.All's closure for a text. -/
theorem tend_ge {l : List Int} (hb : ∀ x ∈ l, 0 ≤ x ∧ x ≤ 255) {p : Int} (h : tok l p = true) : tend l p = p + 2 + nv l p 2 := by unfold tend; rw [if_pos h]
set_option maxRecDepth 100000 in
set_option maxHeartbeats 4000000 in
theorem textC_calls {w W : World} {bB bA bD : Nat} {A : Option Addr} {c : Nat} {l : List Int} {p : Int} {bad : Bool} (h : AM w W bB bA bD A l.length c p bad) (hr : Kd.C (Kd.int .u8) w A l.length l) (hc : l.length ≤ c) (hb : ∀ x ∈ l, 0 ≤ x ∧ x ≤ 255) (hl : l.length ≤ 140737488355328) (h0 : 0 ≤ p) (h1 : p ≤ 1000000000000000000) :
    Calls Try.prog 31 #[.pointer (some ⟨bB, 0, none⟩), .pointer (some ⟨bA, 0, none⟩), .pointer (some ⟨bD, 0, none⟩)] W fun e W' => e = .returned (.string (strOfNums (txt l p))) ∧ AM w W' bB bA bD A l.length c (tend l p) (bad || !tok l p) ∧ Kept W W' (SAD bA bD) := by
  have HT := Lib.hid (text_calls A c l p W (Kd.C_below hr h.bel) hc hb hl ⟨by omega, by omega⟩)
  have hAD := h.nAD
  unfold Texts at HT
  obtain ⟨t, ht⟩ : ∃ t, t = strOfNums (txt l p) := ⟨_, rfl⟩
  obtain ⟨q, hq⟩ : ∃ q, q = tend l p := ⟨_, rfl⟩
  obtain ⟨b2, hb2⟩ : ∃ b, b = tok l p := ⟨_, rfl⟩
  obtain ⟨m, hm⟩ : ∃ m, m = l.length := ⟨_, rfl⟩
  rw [← ht, ← hq, ← hb2, ← hm] at HT
  rw [← ht, ← hq, ← hb2]
  rw [← hm] at h ⊢
  clear hm ht hq hb2 hr hb hl hc
  have H := Lib.hid h
  have cB : W.cell? ⟨bB, 0, none⟩ = some (.slice A m c) := (blk_cell h.B 0).trans rfl
  have cA : W.cell? ⟨bA, 0, none⟩ = some (.int .i64 p) := (blk_cell h.a 0).trans rfl
  have cD : W.cell? ⟨bD, 0, none⟩ = some (.bool bad) := (blk_cell h.d 0).trans rfl
  have zA : W.frozen? ⟨bA, 0, none⟩ = false := blk_frozen h.a 0
  have zD : W.frozen? ⟨bD, 0, none⟩ = false := blk_frozen h.d 0
  have H2 := Lib.hid (fun b => (h.setD b).setA q)
  have HK2 := Lib.hid (fun (b : Bool) => kept_setA (kept_setD (Kept.refl W (SAD bA bD)) (.bool b)) (.int .i64 q))
  clear h
  go_enter Try.func31, Try.ntmps31
  go_wp2_with fail
  refine HT.out.mono ?_
  rintro e w3 ⟨rfl, rfl⟩
  clear HT
  cases bad <;> cases b2
  all_goals
    go_wp2
    go_ret
    exact ⟨rfl, H2.out _, HK2.out _⟩
end Go.Proofs.Ytnhkbjihgepapaa.Fd
