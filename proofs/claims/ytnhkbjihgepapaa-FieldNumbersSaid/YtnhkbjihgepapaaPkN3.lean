/- Texts of this claim, laid together: FdP0, FdNum, FdSeg, PFx7, PFx8, PFx9, PFx10. -/
import Derived.Shelf.Abstract
import Derived.Test.YtnhkbjihgepapaaPkN0
import Derived.Test.YtnhkbjihgepapaaPkN1
import Derived.Test.YtnhkbjihgepapaaPkN2
/- What field.Right and field.All say, in plain Lean. -/
set_option linter.unusedVariables false
set_option linter.unusedSimpArgs false
namespace Go.Proofs.Ytnhkbjihgepapaa.Fd
open Go.RowKit Go.Proofs.YtnhkbjihgepapaaW.PrintWords Go.Proofs.YtnhkbjihgepapaaW.PrintLast Go.Proofs.YtnhkbjihgepapaaW.PrintMore Go.Proofs.Ytnhkbjihgepapaa.PF Go.Proofs.Ytnhkbjihgepapaa.Oct Go.Proofs.Ytnhkbjihgepapaa.EvK
abbrev Fl := S30
theorem wr1 {j : Nat} (h : j < 9000000000000000000) : wrap64 ((j : Int) + 1) = ((j + 1 : Nat) : Int) := by unfold wrap64; omega
theorem rdF (l : List Fl) (j : Nat) (h : j < l.length) : rd_T30 l (j : Int) = l[j] := by unfold rd_T30; simp [List.getD, h]
def rightX (x : Fl) : Bool := rightF x.f1 x.f2 x.f3 x.f4 x.f5
/-- Is the j-th right, and its tag above the one ahead? -/
def stepL (l : List Fl) (j : Nat) : Bool := match l[j]? with
  | some x => rightX x && (match j with | 0 => true | i + 1 => match l[i]? with | some y => decide (y.f0 < x.f0) | none => true)
  | none => true
def okL (l : List Fl) : Nat → Bool
  | 0 => true
  | j + 1 => okL l j && stepL l j
def rightL (l : List Fl) : Bool := okL l l.length && decide ((l.length : Int) ≤ 64)
theorem okL_bad (l : List Fl) (j : Nat) (h : okL l j = false) : ∀ n, j ≤ n → okL l n = false := by
  intro n hn
  induction n with
  | zero => obtain rfl : j = 0 := by omega
            exact h
  | succ n ih =>
    rcases Nat.lt_or_ge n j with h1 | h1
    · obtain rfl : j = n + 1 := by omega
      exact h
    · rw [okL, ih h1, Bool.false_and]
theorem okL_iff (l : List Fl) : ∀ n, okL l n = true ↔ ∀ j, j < n → stepL l j = true
  | 0 => ⟨fun _ j h => absurd h (Nat.not_lt_zero _), fun _ => rfl⟩
  | n + 1 => by
    rw [okL, Bool.and_eq_true, okL_iff l n]
    constructor
    · rintro ⟨h1, h2⟩ j hj
      rcases Nat.lt_succ_iff_lt_or_eq.1 hj with h | rfl
      · exact h1 j h
      · exact h2
    · exact fun h => ⟨fun j hj => h j (by omega), h n (by omega)⟩
theorem stepL_at (l : List Fl) (j : Nat) (h : j < l.length) : stepL l j = (rightX l[j] && (if h0 : j = 0 then true else decide ((l[j - 1]'(by omega)).f0 < l[j].f0))) := by
  unfold stepL
  rw [List.getElem?_eq_getElem h]
  cases j with
  | zero => rfl
  | succ i => simp only [List.getElem?_eq_getElem (show i < l.length by omega), Nat.add_sub_cancel, dif_neg (Nat.succ_ne_zero i)]
theorem right_l0 (l : List Fl) (hl : l.length ≤ 9000000000000000) : ∀ d j, l.length - j = d → j ≤ l.length → okL l j = true → Ev (fun k => field_Right.l0 k l l (l.length : Int) (j : Int)) (rightL l)
  | 0, j, hd, hj, ha => by
    obtain rfl : j = l.length := by omega
    refine Ev.stp (fun k => by rw [field_Right.l0]) (Ev.neg (by omega) (Ev.one ?_))
    unfold rightL
    rw [ha, Bool.true_and]
  | d + 1, j, hd, hj, ha => by
    have hlt : j < l.length := by omega
    have hst := stepL_at l j hlt
    have bad : stepL l j = false → false = rightL l := fun h => by
      unfold rightL
      rw [okL_bad l (j + 1) (by rw [okL, ha, h]; rfl) l.length (by omega)]
      rfl
    have good : stepL l j = true → Ev (fun k => field_Right.l0 k l l (l.length : Int) (wrap64 ((j : Int) + 1))) (rightL l) := fun h => by
      rw [wr1 (by omega)]
      exact right_l0 l hl d (j + 1) (by omega) (by omega) (by rw [okL, ha, h]; rfl)
    refine Ev.stp (fun k => by rw [field_Right.l0]) (Ev.pos (by omega) (Ev.pos (by omega) (Ev.pos (by omega) ?_)))
    rw [rdF l j hlt]
    refine Ev.bnd (a := rightX l[j]) (Ev.const rfl) ?_
    cases hx : rightX l[j] with
    | false => exact Ev.neg (by decide) (Ev.one (bad (by rw [hst, hx]; rfl)))
    | true =>
      refine Ev.pos rfl ?_
      cases j with
      | zero => exact Ev.neg (by decide) (good (by rw [hst, hx]; rfl))
      | succ i =>
        rw [hx, Bool.true_and, dif_neg (Nat.succ_ne_zero i)] at hst
        simp only [Nat.add_sub_cancel] at hst
        have e1 : wrap64 (((i + 1 : Nat) : Int) - 1) = (i : Int) := by unfold wrap64; omega
        rw [e1]
        refine Ev.pos (by omega) (Ev.pos (by omega) (Ev.pos (by omega) ?_))
        rw [rdF l i (by omega)]
        by_cases h : (l[i]'(by omega)).f0 ≥ l[i + 1].f0
        · exact Ev.pos h (Ev.one (bad (by rw [hst]; exact decide_eq_false (by omega))))
        · exact Ev.neg h (good (by rw [hst]; exact decide_eq_true (by omega)))
theorem right_ev (l : List Fl) (hl : l.length ≤ 9000000000000000) : Ev (fun k => field_Right.f k l) (rightL l) := right_l0 l hl _ 0 rfl (Nat.zero_le _) rfl
theorem rightL_calls (l : List Fl) (A : Option Addr) (c : Nat) (w : World) (hl : l.length ≤ 9000000000000000) (hr : Kd.C k30 w A l.length l) (hc : l.length ≤ c) : Calls Try.prog 10 #[.slice A l.length c] w fun e w' => e = .returned (.bool (rightL l)) ∧ Below w.heap.size w w' := by
  obtain ⟨k, hk⟩ := Ev.the (right_ev l hl)
  exact field_Right.calls k A c l _ w hr hc hk
/-! ### reading -/
def i64 (v : Int) : Int := wrap64 v
def nsF (l : List Int) : Nat → Int → List Int → Option (List Int × Int)
  | 0, p, acc => some (acc, p)
  | k + 1, p, acc => if nok l p 8 = true then nsF l k (p + 8) (acc ++ [i64 (nv l p 8)]) else none
def tsF (l : List Int) : Nat → Int → List ByteArray → Option (List ByteArray × Int)
  | 0, p, acc => some (acc, p)
  | k + 1, p, acc => if tok l p = true then tsF l k (tend l p) (acc ++ [strOfNums (txt l p)]) else none
/-- What stands behind a tag and a kind. -/
def bodyF (l : List Int) (tag kind p : Int) : Option (Fl × Int) :=
  if kind = 1 then (if nok l p 8 = true then some (⟨tag, kind, i64 (nv l p 8), ⟨#[]⟩, [], []⟩, p + 8) else none)
  else if kind = 2 then (if tok l p = true then some (⟨tag, kind, 0, strOfNums (txt l p), [], []⟩, tend l p) else none)
  else if kind = 3 then (if nok l p 2 = true then (match nsF l (nv l p 2).toNat (p + 2) [] with | some r => some (⟨tag, kind, 0, ⟨#[]⟩, r.1, []⟩, r.2) | none => none) else none)
  else if kind = 4 then (if nok l p 2 = true then (match tsF l (nv l p 2).toNat (p + 2) [] with | some r => some (⟨tag, kind, 0, ⟨#[]⟩, [], r.1⟩, r.2) | none => none) else none)
  else some (⟨tag, kind, 0, ⟨#[]⟩, [], []⟩, p)
/-- The field at a place, and the place behind it. -/
def oneF (l : List Int) (p : Int) : Option (Fl × Int) := if nok l p 1 = true then (if nok l (p + 1) 1 = true then bodyF l (nv l p 1) (nv l (p + 1) 1) (p + 2) else none) else none
def allL (l : List Int) : Nat → Int → List Fl → Option (List Fl × Int)
  | 0, p, acc => some (acc, p)
  | k + 1, p, acc => match oneF l p with
    | some r => allL l k r.2 (acc ++ [r.1])
    | none => none
def judge (n : Nat) : Option (List Fl × Int) → List Fl × Int
  | some r => if r.2 = n ∧ rightL r.1 = true then (r.1, 0) else ([], 40)
  | none => ([], 40)
def allF (l : List Int) : List Fl × Int :=
  if l.length = 0 ∨ 65000 < l.length then ([], 40) else
  judge l.length (allL l (rd l 0).toNat 1 [])
def okBytes (l : List Int) : Bool := decide (l.length ≤ 140737488355328) && l.all (fun x => decide (0 ≤ x ∧ x ≤ 255))
theorem okBytes_iff {l : List Int} : okBytes l = true ↔ l.length ≤ 140737488355328 ∧ ∀ x ∈ l, 0 ≤ x ∧ x ≤ 255 := by
  unfold okBytes
  rw [Bool.and_eq_true, decide_eq_true_iff, List.all_eq_true]
  simp only [decide_eq_true_iff]
end Go.Proofs.Ytnhkbjihgepapaa.Fd
/- field.All's closures: a number, a text, off the bytes. -/
set_option linter.unusedVariables false
set_option linter.unusedSimpArgs false
namespace Go.Proofs.Ytnhkbjihgepapaa.Fd
open Go.RowKit Go.Proofs.YtnhkbjihgepapaaW.PrintWords Go.Proofs.YtnhkbjihgepapaaW.PrintLast Go.Proofs.YtnhkbjihgepapaaW.PrintMore Go.Proofs.Ytnhkbjihgepapaa.PF Go.Proofs.Ytnhkbjihgepapaa.Oct
/-- What the closures share: the bytes, the place, whether it is bad. -/
structure AM (w W : World) (bB bA bD : Nat) (A : Option Addr) (n c : Nat) (p : Int) (bad : Bool) : Prop where
  bel : Below w.heap.size w W
  gB : w.heap.size ≤ bB
  gA : w.heap.size ≤ bA
  gD : w.heap.size ≤ bD
  nBA : bB ≠ bA
  nBD : bB ≠ bD
  nAD : bA ≠ bD
  B : W.heap[bB]? = some (.cells #[.slice A n c] 22 (0, 0))
  a : W.heap[bA]? = some (.cells #[.int .i64 p] 3 (0, 0))
  d : W.heap[bD]? = some (.cells #[.bool bad] 4 (0, 0))
section
variable {w W W2 : World} {bB bA bD : Nat} {A : Option Addr} {n c : Nat} {p : Int} {bad : Bool}
theorem AM.setA (h : AM w W bB bA bD A n c p bad) (q : Int) : AM w (W.setCell ⟨bA, 0, none⟩ (.int .i64 q)) bB bA bD A n c q bad :=
  ⟨below_set h.bel h.gA, h.gB, h.gA, h.gD, h.nBA, h.nBD, h.nAD, blk_far h.B h.nBA _, blk_set h.a 0 _, blk_far h.d h.nAD.symm _⟩
theorem AM.setD (h : AM w W bB bA bD A n c p bad) (b : Bool) : AM w (W.setCell ⟨bD, 0, none⟩ (.bool b)) bB bA bD A n c p b :=
  ⟨below_set h.bel h.gD, h.gB, h.gA, h.gD, h.nBA, h.nBD, h.nAD, blk_far h.B h.nBD _, blk_far h.a h.nAD _, blk_set h.d 0 _⟩
theorem AM.below (h : AM w W bB bA bD A n c p bad) (hb : Below W.heap.size W W2) : AM w W2 bB bA bD A n c p bad :=
  ⟨below_then h.bel h.bel.size hb, h.gB, h.gA, h.gD, h.nBA, h.nBD, h.nAD, (hb.block _ (blk_lt h.B)).trans h.B, (hb.block _ (blk_lt h.a)).trans h.a, (hb.block _ (blk_lt h.d)).trans h.d⟩
/-- What a call of a closure may write. -/
def SAD (bA bD : Nat) (k : Nat) : Prop := k = bA ∨ k = bD
theorem kept_setA (h : Kept W W2 (SAD bA bD)) (u : Value) : Kept W (W2.setCell ⟨bA, 0, none⟩ u) (SAD bA bD) := h.setCell (Or.inl (Or.inl rfl)) u
theorem kept_setD (h : Kept W W2 (SAD bA bD)) (u : Value) : Kept W (W2.setCell ⟨bD, 0, none⟩ u) (SAD bA bD) := h.setCell (Or.inl (Or.inr rfl)) u
end
/-- Are the first j there? -/
def okj (l : List Int) (p : Int) (j : Nat) : Bool := decide (j = 0) || nok l p j
theorem nok_iff {l : List Int} {p : Int} {n : Nat} : nok l p n = true ↔ 0 ≤ p ∧ p + n ≤ l.length := by
  unfold nok
  rw [Bool.and_eq_true, decide_eq_true_iff, decide_eq_true_iff]
theorem okj_step (l : List Int) (p : Int) (j : Nat) (h0 : 0 ≤ p) : okj l p (j + 1) = (okj l p j && nok l (p + j) 1) := by
  unfold okj
  rw [decide_eq_false (by omega), Bool.false_or, Bool.eq_iff_iff, Bool.and_eq_true, Bool.or_eq_true, decide_eq_true_iff, nok_iff, nok_iff, nok_iff]
  omega
theorem nv_step {l : List Int} {p : Int} {j : Nat} (h : nok l p (j + 1) = true) : nv l p (j + 1) = nv l p j * 256 + nv l (p + j) 1 := by
  obtain ⟨h0, h1⟩ := nok_iff.1 h
  obtain ⟨q, rfl⟩ := Int.eq_ofNat_of_zero_le h0
  have e1 : nok l (q : Int) j = true := nok_iff.2 (by omega)
  have e2 : nok l ((q : Int) + j) 1 = true := nok_iff.2 (by omega)
  unfold nv
  rw [if_pos h, if_pos e1, if_pos e2, show ((q : Int) + (j : Int)).toNat = q + j by omega, Int.toNat_natCast, seg_snoc l q j (by omega), num_snoc]
  have hs := seg_snoc l (q + j) 0 (by omega)
  rw [Nat.zero_add, List.take_zero, List.nil_append] at hs
  rw [hs, Nat.add_zero]
  unfold num
  simp
theorem pow_step {v x : Int} {j : Nat} (h0 : 0 ≤ v) (h1 : v < 256 ^ j) (h2 : 0 ≤ x) (h3 : x ≤ 255) : 0 ≤ v * 256 + x ∧ v * 256 + x < 256 ^ (j + 1) := by
  rw [Int.pow_succ]
  omega
set_option maxRecDepth 100000 in
set_option maxHeartbeats 4000000 in
theorem number_calls {w W : World} {bB bA bD : Nat} {A : Option Addr} {c : Nat} {l : List Int} {p : Int} {bad : Bool} (h : AM w W bB bA bD A l.length c p bad) (hr : Kd.C (Kd.int .u8) w A l.length l) (hb : ∀ x ∈ l, 0 ≤ x ∧ x ≤ 255) (hl : l.length ≤ 140737488355328) (h0 : 0 ≤ p) (h1 : p ≤ 1000000000000000000) (n : Nat) (hn1 : 1 ≤ n) (hn : n ≤ 8) :
    Calls Try.prog 29 #[.int .i64 n, .pointer (some ⟨bB, 0, none⟩), .pointer (some ⟨bA, 0, none⟩), .pointer (some ⟨bD, 0, none⟩)] W fun e W' => ∃ v : Int, e = .returned (.int .u64 v) ∧ (0 ≤ v ∧ v < 18446744073709551616 ∧ (nok l p n = true → v = nv l p n)) ∧ AM w W' bB bA bD A l.length c (p + n) (bad || !nok l p n) ∧ Kept W W' (SAD bA bD) := by
  have HA := Lib.hid h
  have HR := Lib.hid hr
  have HB := Lib.hid hb
  have HL := Lib.hid hl
  have hAD := h.nAD
  obtain ⟨m, hm⟩ : ∃ m, m = l.length := ⟨_, rfl⟩
  rw [← hm] at HA
  have HM := Lib.hid hm
  clear hm h hr hb hl
  go_enter Try.func29, Try.ntmps29
  go_wp2
  go_loopw [6, 10] (fun v6 v10 wr => ∃ (j : Nat) (v : Int), j ≤ n ∧ v6 = .int .u64 v ∧ v10 = .int .i64 j ∧ Hid (0 ≤ v ∧ v < 256 ^ j ∧ (okj l p j = true → j = 0 ∨ v = nv l p j) ∧ (j = 0 → v = 0)) ∧ Hid (AM w wr bB bA bD A m c (p + j) (bad || !okj l p j)) ∧ Hid (Kept W wr (SAD bA bD))) (fun _ v10 _ => n - (intOf v10).toNat)
  case atStart => exact ⟨0, 0, Nat.zero_le _, rfl, rfl, Lib.hid ⟨Int.le_refl _, by decide, fun _ => Or.inl rfl, fun _ => rfl⟩, Lib.hid (by simpa [okj] using HA.out), Lib.hid (Kept.refl _ _)⟩
  case round =>
    obtain ⟨j, v, hj, rfl, rfl, HV, H, HK⟩ := hrel
    by_cases hlt : j < n
    · obtain ⟨q, hq⟩ : ∃ q, q = p + j := ⟨_, rfl⟩
      obtain ⟨b1, hb1⟩ : ∃ b, b = (bad || !okj l p j) := ⟨_, rfl⟩
      rw [← hq, ← hb1] at H
      have hq0 : 0 ≤ q := by omega
      have hq1 : q ≤ 1000000000000000010 := by omega
      have HU := Lib.hid (u8_calls A c l q wr (Kd.C_below HR.out H.out.bel) HB.out HL.out ⟨by omega, by omega⟩)
      have HX := Lib.hid (nv_range l HB.out q 1)
      have HS := Lib.hid (okj_step l p j h0)
      have HN := Lib.hid (fun h => nv_step (l := l) (p := p) (j := j) h)
      rw [← hq] at HS HN
      rw [← HM.out] at HU
      obtain ⟨b2, hb2⟩ : ∃ b, b = nok l q 1 := ⟨_, rfl⟩
      obtain ⟨x, hx⟩ : ∃ x, x = nv l q 1 := ⟨_, rfl⟩
      rw [← hb2, ← hx] at HU
      rw [← hb2] at HS
      rw [← hx] at HX HN
      have hxr := HX.out
      have hx0 : 0 ≤ x := hxr.1
      have hx1 : x ≤ 255 := by have := hxr.2; omega
      have hpw := pow7 j (by omega)
      have hv0 : 0 ≤ v := HV.out.1
      have hv1 : v < 72057594037927936 := by have := HV.out.2.1; omega
      have HO := Lib.hid (or_byte v x hv0 hv1 hx0 hx1)
      have HP := Lib.hid (pow_step hv0 HV.out.2.1 hx0 hx1)
      have HQ := Lib.hid hq
      have HB1 := Lib.hid hb1
      have cB : wr.cell? ⟨bB, 0, none⟩ = some (.slice A m c) := (blk_cell H.out.B 0).trans rfl
      have cA : wr.cell? ⟨bA, 0, none⟩ = some (.int .i64 q) := (blk_cell H.out.a 0).trans rfl
      have cD : wr.cell? ⟨bD, 0, none⟩ = some (.bool b1) := (blk_cell H.out.d 0).trans rfl
      have zA : wr.frozen? ⟨bA, 0, none⟩ = false := blk_frozen H.out.a 0
      have zD : wr.frozen? ⟨bD, 0, none⟩ = false := blk_frozen H.out.d 0
      have w1 : IntKind.i64.wrap (q + 1) = q + 1 := by rw [IntKind.wrap_i64]; omega
      have w2 : wrap64 (q + 1) = q + 1 := by unfold wrap64; omega
      clear hq hb1 hb2 hx hxr hpw HX
      have H2 := Lib.hid (fun b => (H.out.setD b).setA (q + 1))
      have HK2 := Lib.hid (fun (b : Bool) => kept_setA (kept_setD HK.out (.bool b)) (.int .i64 (q + 1)))
      go_wp2_with fail
      refine HU.out.mono ?_
      rintro e w3 ⟨rfl, rfl⟩
      clear HU
      have fin : ∀ b, b = (b1 || !b2) → b = (bad || !okj l p (j + 1)) := fun b hb => by rw [hb, HS.out, HB1.out]; cases bad <;> cases okj l p j <;> cases b2 <;> rfl
      have HF := Lib.hid fin
      clear fin
      have HVN : Hid (okj l p (j + 1) = true → v * 256 + x = nv l p (j + 1)) := Lib.hid (fun hk => by
        have hk1 : nok l p (j + 1) = true := by unfold okj at hk; rw [decide_eq_false (by omega), Bool.false_or] at hk; exact hk
        have h1 := HN.out hk1
        rw [h1]
        have hkj : okj l p j = true := by
          rw [HS.out, Bool.and_eq_true] at hk
          exact hk.1
        rcases HV.out.2.2.1 hkj with h2 | h2
        · rw [HV.out.2.2.2 h2, h2]
          have : nv l p 0 = 0 := by unfold nv; split <;> rfl
          rw [this]
        · rw [h2])
      clear hq0
      cases b1 <;> cases b2
      all_goals
        go_wp2
        go_roundw
        case rel => exact ⟨j + 1, v * 256 + x, by omega, congrArg (Value.int .u64) HO.out, by go_num, Lib.hid ⟨HP.out.1, HP.out.2, fun hk => Or.inr (HVN.out hk), fun hk => absurd hk (by omega)⟩, Lib.hid (by rw [show p + ((j + 1 : Nat) : Int) = q + 1 by rw [HQ.out]; omega, ← HF.out _ rfl]; exact H2.out _), HK2.out _⟩
        case measure => simp [intOf]; omega
    · obtain rfl : j = n := by omega
      have hok : okj l p j = nok l p j := by unfold okj; rw [decide_eq_false (by omega), Bool.false_or]
      rw [hok] at HV H
      have h64 : (256 : Int) ^ j ≤ 18446744073709551616 := by
        rw [show (18446744073709551616 : Int) = 256 ^ 8 by decide +kernel]
        exact_mod_cast Nat.pow_le_pow_right (by decide) hn
      have HVF : Hid (0 ≤ v ∧ v < 18446744073709551616 ∧ (nok l p j = true → v = nv l p j)) := Lib.hid ⟨HV.out.1, Int.lt_of_lt_of_le HV.out.2.1 h64, fun hk => (HV.out.2.2.1 hk).resolve_left (by omega)⟩
      clear hok HV h64
      rw [HM.out] at H
      go_wp2
      go_ret
      exact ⟨v, rfl, HVF.out, H.out, HK.out⟩
/-- field.All's closure for a text. -/
theorem tend_ge {l : List Int} (hb : ∀ x ∈ l, 0 ≤ x ∧ x ≤ 255) {p : Int} (h : tok l p = true) : tend l p = p + 2 + nv l p 2 := by unfold tend; rw [if_pos h]
set_option maxRecDepth 100000 in
set_option maxHeartbeats 4000000 in
theorem textC_calls {w W : World} {bB bA bD : Nat} {A : Option Addr} {c : Nat} {l : List Int} {p : Int} {bad : Bool} (h : AM w W bB bA bD A l.length c p bad) (hr : Kd.C (Kd.int .u8) w A l.length l) (hc : l.length ≤ c) (hb : ∀ x ∈ l, 0 ≤ x ∧ x ≤ 255) (hl : l.length ≤ 140737488355328) (h0 : 0 ≤ p) (h1 : p ≤ 1000000000000000000) :
    Calls Try.prog 31 #[.pointer (some ⟨bB, 0, none⟩), .pointer (some ⟨bA, 0, none⟩), .pointer (some ⟨bD, 0, none⟩)] W fun e W' => e = .returned (.string (strOfNums (txt l p))) ∧ AM w W' bB bA bD A l.length c (tend l p) (bad || !tok l p) ∧ Kept W W' (SAD bA bD) := by
  have HT := Lib.hid (text_calls A c l p W (Kd.C_below hr h.bel) hc hb hl ⟨by omega, by omega⟩)
  have hAD := h.nAD
  unfold Texts at HT
  obtain ⟨t, ht⟩ : ∃ t, t = strOfNums (txt l p) := ⟨_, rfl⟩
  obtain ⟨q, hq⟩ : ∃ q, q = tend l p := ⟨_, rfl⟩
  obtain ⟨b2, hb2⟩ : ∃ b, b = tok l p := ⟨_, rfl⟩
  obtain ⟨m, hm⟩ : ∃ m, m = l.length := ⟨_, rfl⟩
  rw [← ht, ← hq, ← hb2, ← hm] at HT
  rw [← ht, ← hq, ← hb2]
  rw [← hm] at h ⊢
  clear hm ht hq hb2 hr hb hl hc
  have H := Lib.hid h
  have cB : W.cell? ⟨bB, 0, none⟩ = some (.slice A m c) := (blk_cell h.B 0).trans rfl
  have cA : W.cell? ⟨bA, 0, none⟩ = some (.int .i64 p) := (blk_cell h.a 0).trans rfl
  have cD : W.cell? ⟨bD, 0, none⟩ = some (.bool bad) := (blk_cell h.d 0).trans rfl
  have zA : W.frozen? ⟨bA, 0, none⟩ = false := blk_frozen h.a 0
  have zD : W.frozen? ⟨bD, 0, none⟩ = false := blk_frozen h.d 0
  have H2 := Lib.hid (fun b => (h.setD b).setA q)
  have HK2 := Lib.hid (fun (b : Bool) => kept_setA (kept_setD (Kept.refl W (SAD bA bD)) (.bool b)) (.int .i64 q))
  clear h
  go_enter Try.func31, Try.ntmps31
  go_wp2_with fail
  refine HT.out.mono ?_
  rintro e w3 ⟨rfl, rfl⟩
  clear HT
  cases bad <;> cases b2
  all_goals
    go_wp2
    go_ret
    exact ⟨rfl, H2.out _, HK2.out _⟩
end Go.Proofs.Ytnhkbjihgepapaa.Fd
/- Fields and their bytes, in plain Lean: what is put is read, what is read is what was put. -/
set_option linter.unusedVariables false
set_option linter.unusedSimpArgs false
namespace Go.Proofs.Ytnhkbjihgepapaa.Fd
open Go.RowKit Go.Proofs.YtnhkbjihgepapaaW.PrintWords Go.Proofs.YtnhkbjihgepapaaW.PrintLast Go.Proofs.YtnhkbjihgepapaaW.PrintMore Go.Proofs.Ytnhkbjihgepapaa.PF Go.Proofs.Ytnhkbjihgepapaa.Oct Go.Proofs.Ytnhkbjihgepapaa.EvK
def Bts (l : List Int) : Prop := ∀ x ∈ l, 0 ≤ x ∧ x ≤ 255
def u64 (n : Int) : Int := IntKind.u64.wrap n
def I64r (n : Int) : Prop := -9223372036854775808 ≤ n ∧ n ≤ 9223372036854775807
theorem u64_range (n : Int) : 0 ≤ u64 n ∧ u64 n < 18446744073709551616 := by unfold u64; rw [IntKind.wrap_u64]; omega
theorem i64_u64 {n : Int} (h : I64r n) : i64 (u64 n) = n := by
  unfold I64r at h
  unfold i64 u64 wrap64
  rw [IntKind.wrap_u64]
  omega
/-- The bytes from p to below q are c. -/
def Seg (l : List Int) (p q : Int) (c : List Int) : Prop := ∃ pre post : List Int, l = pre ++ c ++ post ∧ (pre.length : Int) = p ∧ p + c.length = q
theorem Seg.then_ {l : List Int} {p q r : Int} {a b : List Int} (h : Seg l p q a) (k : Seg l q r b) : Seg l p r (a ++ b) := by
  obtain ⟨pre, post, e, h1, h2⟩ := h
  obtain ⟨pre', post', e', h1', h2'⟩ := k
  have hl : pre'.length = (pre ++ a).length := by rw [List.length_append]; omega
  have he : pre ++ a ++ post = pre' ++ (b ++ post') := by rw [← List.append_assoc, ← e, e']
  obtain ⟨e1, e2⟩ := List.append_inj he hl.symm
  refine ⟨pre, post', ?_, h1, by rw [List.length_append]; omega⟩
  rw [e, e2]
  simp only [List.append_assoc]
theorem Seg.part {l : List Int} {p r : Int} {a b : List Int} (h : Seg l p r (a ++ b)) : ∃ q, Seg l p q a ∧ Seg l q r b ∧ q = p + a.length := by
  obtain ⟨pre, post, e, h1, h2⟩ := h
  rw [List.length_append] at h2
  refine ⟨p + a.length, ⟨pre, b ++ post, by rw [e]; simp only [List.append_assoc], h1, rfl⟩, ⟨pre ++ a, post, by rw [e]; simp only [List.append_assoc], by rw [List.length_append]; omega, by omega⟩, rfl⟩
theorem Seg.nil {l : List Int} {p : Int} (h0 : 0 ≤ p) (h1 : p ≤ l.length) : Seg l p p [] := ⟨l.take p.toNat, l.drop p.toNat, by rw [List.append_nil, List.take_append_drop], by rw [List.length_take]; omega, by simp⟩
theorem Seg.len {l : List Int} {p q : Int} {c : List Int} (h : Seg l p q c) : 0 ≤ p ∧ p + c.length = q ∧ q ≤ l.length := by
  obtain ⟨pre, post, e, h1, h2⟩ := h
  have := congrArg List.length e
  rw [List.length_append, List.length_append] at this
  omega
/-! ### numbers -/
theorem pow8 (n : Nat) : (2 : Int) ^ (8 * n) = 256 ^ n := by rw [show (256 : Int) = 2 ^ 8 by decide, ← Int.pow_mul]
theorem seg_nok {l : List Int} {p q v : Int} {n : Nat} (h : Seg l p q (be v n)) (h0 : 0 ≤ v) (h1 : v < 256 ^ n) : nok l p n = true ∧ nv l p n = v ∧ q = p + n := by
  obtain ⟨pre, post, e, hp, hq⟩ := h
  rw [be_length] at hq
  subst hp
  rw [e]
  exact ⟨nok_put' pre v n post, nv_put pre v n post h0 (by rw [pow8]; exact h1), hq.symm⟩
/-! ### texts -/
def encT (t : ByteArray) : List Int := be t.size 2 ++ bytesOf t
theorem encT_len (t : ByteArray) : (encT t).length = 2 + t.size := by unfold encT; rw [List.length_append, be_length, bytesOf_length]
theorem seg_tok {l : List Int} {p q : Int} {t : ByteArray} (h : Seg l p q (encT t)) (ht : t.size ≤ 65535) : tok l p = true ∧ strOfNums (txt l p) = t ∧ tend l p = q := by
  obtain ⟨pre, post, e, hp, hq⟩ := h
  rw [encT_len] at hq
  subst hp
  have := text_put pre t post ht
  rw [show pre ++ be t.size 2 ++ (bytesOf t ++ post) = l by rw [e]; unfold encT; simp only [List.append_assoc]] at this
  exact ⟨this.1, by rw [this.2.1, bytesOf_str], by rw [this.2.2]; omega⟩
/-! ### lists of them -/
def encN (n : Int) : List Int := be (u64 n) 8
theorem ns_read : ∀ (ns : List Int) (l : List Int) (p q : Int) (acc : List Int), (∀ n ∈ ns, I64r n) → Seg l p q (ns.flatMap encN) → nsF l ns.length p acc = some (acc ++ ns, q)
  | [], l, p, q, acc, _, h => by
    have := h.len
    simp only [List.flatMap_nil, List.length_nil] at this
    rw [List.append_nil, show q = p by omega]
    rfl
  | n :: ns, l, p, q, acc, hr, h => by
    rw [List.flatMap_cons] at h
    obtain ⟨q1, h1, h2, e⟩ := h.part
    have hu := u64_range n
    obtain ⟨a1, a2, a3⟩ := seg_nok h1 hu.1 (by rw [show (256 : Int) ^ 8 = 18446744073709551616 by decide +kernel]; exact hu.2)
    rw [List.length_cons, nsF, if_pos a1, a2, i64_u64 (hr n (List.mem_cons_self ..))]
    rw [a3] at h2
    rw [show p + 8 = p + ((8 : Nat) : Int) from rfl, ns_read ns l _ q _ (fun m hm => hr m (List.mem_cons_of_mem _ hm)) h2, List.append_assoc]
    rfl
theorem ts_read : ∀ (ts : List ByteArray) (l : List Int) (p q : Int) (acc : List ByteArray), (∀ t ∈ ts, t.size ≤ 65535) → Seg l p q (ts.flatMap encT) → tsF l ts.length p acc = some (acc ++ ts, q)
  | [], l, p, q, acc, _, h => by
    have := h.len
    simp only [List.flatMap_nil, List.length_nil] at this
    rw [List.append_nil, show q = p by omega]
    rfl
  | t :: ts, l, p, q, acc, hr, h => by
    rw [List.flatMap_cons] at h
    obtain ⟨q1, h1, h2, e⟩ := h.part
    obtain ⟨a1, a2, a3⟩ := seg_tok h1 (hr t (List.mem_cons_self ..))
    rw [List.length_cons, tsF, if_pos a1, a2, a3, ts_read ts l _ q _ (fun m hm => hr m (List.mem_cons_of_mem _ hm)) h2, List.append_assoc]
    rfl
end Go.Proofs.Ytnhkbjihgepapaa.Fd
-- printed by wprint.py (this session's program over the kit's print.py)
namespace Go.Proofs.Ytnhkbjihgepapaa.PF
open Go.RowKit Go.Proofs.YtnhkbjihgepapaaW.PrintWords Go.Proofs.YtnhkbjihgepapaaW.PrintLast Go.Proofs.YtnhkbjihgepapaaW.PrintMore
attribute [local go_sem] max2_int min2_int max_two min_two max_three min_three max_four min_four   -- for this text's walks alone
set_option linter.unusedVariables false
set_option linter.unusedSimpArgs false

/-! ### field_size: function 26 -/
def field_size.l0 : Nat → Int → List ByteArray → Int → Int → Option (Int)
  | 0, _, _, _, _ => none
  | k + 1, x3, x32, x33, x34 => if x34 < x33 then (if 0 ≤ x34 then (if x34 < (x32.length : Int) then (field_size.l0 k (wrap64 (x3 + (wrap64 (2 + ((rdOf ByteArray.empty x32 x34).size : Int))))) x32 x33 (wrap64 (x34 + 1))) else (none)) else (none)) else (some x3)
def field_size.f (k : Nat) (a0_0 : Int) (a0_1 : Int) (a0_2 : Int) (a0_3 : ByteArray) (l0_4 : List Int) (l0_5 : List ByteArray) : Option (Int) := if a0_1 = 1 then (some (2 + 8)) else (if a0_1 = 2 then (some (wrap64 ((2 + 2) + (a0_3.size : Int)))) else (if a0_1 = 3 then (some (wrap64 ((2 + 2) + (wrap64 (8 * (l0_4.length : Int)))))) else (field_size.l0 k (2 + 2) l0_5 (l0_5.length : Int) 0)))
theorem field_size.mono_l : ∀ k, (∀ y0 y1 y2 y3, LeO (field_size.l0 k y0 y1 y2 y3) (field_size.l0 (k + 1) y0 y1 y2 y3))
  | 0 => fun _ _ _ _ r h => by simp [field_size.l0] at h
  | k + 1 => by
    have ih0 := field_size.mono_l k
    · intro y0 y1 y2 y3
      unfold field_size.l0
      repeat' first
      | (with_reducible exact ih0 _ _ _ _)
      | (with_reducible exact LeO.refl _)
      | (with_reducible exact LeO.none _)
      | (with_reducible refine LeO.ite ?_ ?_)
      | (with_reducible refine LeO.bind ?_ (fun _ => ?_))
      | exact ih0 _ _ _ _
      | exact LeO.none _
      | refine LeO.ite ?_ ?_
      | refine LeO.bind ?_ (fun _ => ?_)
theorem field_size.mono : ∀ a0 a1 a2 a3 a4 a5 k, LeO (field_size.f k a0 a1 a2 a3 a4 a5) (field_size.f (k + 1) a0 a1 a2 a3 a4 a5) := by
  intro a0 a1 a2 a3 a4 a5 k
  have ih0 := field_size.mono_l k
  unfold field_size.f
  repeat' first
      | (with_reducible exact ih0 _ _ _ _)
      | (with_reducible exact LeO.refl _)
      | (with_reducible exact LeO.none _)
      | (with_reducible refine LeO.ite ?_ ?_)
      | (with_reducible refine LeO.bind ?_ (fun _ => ?_))
      | exact ih0 _ _ _ _
      | exact LeO.none _
      | refine LeO.ite ?_ ?_
      | refine LeO.bind ?_ (fun _ => ?_)
set_option maxHeartbeats 8000000 in
set_option maxRecDepth 100000 in
theorem field_size.calls (k : Nat) (a0_0 : Int) (a0_1 : Int) (a0_2 : Int) (a0_3 : ByteArray) (A0_4 : Option Addr) (c0_4 : Nat) (l0_4 : List Int) (A0_5 : Option Addr) (c0_5 : Nat) (l0_5 : List ByteArray) (r : Int) (w : World) (hr0_4 : Kd.C (Kd.int .i64) w A0_4 l0_4.length l0_4) (hc0_4 : l0_4.length ≤ c0_4) (hr0_5 : Kd.C Kd.string w A0_5 l0_5.length l0_5) (hc0_5 : l0_5.length ≤ c0_5) (h : field_size.f k a0_0 a0_1 a0_2 a0_3 l0_4 l0_5 = some r) :
    Calls Try.prog 26 #[.agg #[.int .u8 a0_0, .int .u8 a0_1, .int .i64 a0_2, .string a0_3, .slice A0_4 l0_4.length c0_4, .slice A0_5 l0_5.length c0_5]] w fun e w' => e = .returned (.int .i64 r) ∧ Below w.heap.size w w' := by
  have hu30 := Try.underlying30
  have HR0_4 := Aside0.mk hr0_4
  have HC0_4 := Aside0.mk hc0_4
  clear hr0_4 hc0_4
  have HR0_5 := Aside0.mk hr0_5
  have HC0_5 := Aside0.mk hc0_5
  clear hr0_5 hc0_5
  have HB := Aside0.mk (Below.refl w.heap.size w)
  have H : (if a0_1 = 1 then (some (2 + 8)) else (if a0_1 = 2 then (some (wrap64 ((2 + 2) + (a0_3.size : Int)))) else (if a0_1 = 3 then (some (wrap64 ((2 + 2) + (wrap64 (8 * (l0_4.length : Int)))))) else (field_size.l0 k (2 + 2) l0_5 (l0_5.length : Int) 0)))) = some r := h
  clear h
  by_cases c2 : a0_1 = 1
  · rw [if_pos c2] at H
    have c2b0 : (a0_1 == 1) = true := beq_iff_eq.mpr c2
    have c2b1 : (a0_1 != 1) = false := bne_eq_false_iff_eq.mpr c2
    clear c2
    obtain rfl := Option.some.inj H
    go_enter Try.func26, Try.ntmps26
    go_wp2_with (first | ((with_reducible refine gate_dst (N := 1) rfl ?_); refine box_event ?hg (N := 1) ?hd (cs := #[.int .u8 a0_0, .int .u8 a0_1, .int .i64 a0_2, .string a0_3, .slice A0_4 l0_4.length c0_4, .slice A0_5 l0_5.length c0_5]) (t := 30) ?hr ?_; (case hd => rfl); (case hg => rfl); (case hr => first | (go_simp; done) | (go_simp; rfl)); intro gb120 hg w3 hbox hb; have n0_ := Aside0.mk (below_step (by repeat (first | (with_reducible first | exact HB.out | apply below_alloc | apply pw_below_drewN | apply below_drew1) | exact HB.out)) hb); have n1_ := Aside0.mk (hbox); have n2_ := Aside0.mk ((by rw [hg]; exact (below_size (by repeat (first | (with_reducible first | exact HB.out | apply below_alloc | apply pw_below_drewN | apply below_drew1) | exact HB.out))) : w.heap.size ≤ gb120)); have n3_ := Aside0.mk ((by rw [hg]; exact (below_size (by repeat (first | (with_reducible first | exact HB.out | apply below_alloc | apply pw_below_drewN | apply below_drew1) | exact HB.out))) : w.heap.size ≤ gb120)); clear HB; have HB := n0_; have BK120 := n1_; have GW120 := n2_; have GE120 := n3_; clear n0_ n1_ n2_ n3_; clear hb hbox hg; have hcz4_0 : w3.cell? ⟨gb120, 0, none⟩ = some (.int .u8 a0_0) := (blk_cell BK120.out 0).trans rfl; have hcz4_1 : w3.cell? ⟨gb120, 1, none⟩ = some (.int .u8 a0_1) := (blk_cell BK120.out 1).trans rfl; have hcz4_2 : w3.cell? ⟨gb120, 2, none⟩ = some (.int .i64 a0_2) := (blk_cell BK120.out 2).trans rfl; have hcz4_3 : w3.cell? ⟨gb120, 3, none⟩ = some (.string a0_3) := (blk_cell BK120.out 3).trans rfl; have hcz4_4 : w3.cell? ⟨gb120, 4, none⟩ = some (.slice A0_4 l0_4.length c0_4) := (blk_cell BK120.out 4).trans rfl; have hcz4_5 : w3.cell? ⟨gb120, 5, none⟩ = some (.slice A0_5 l0_5.length c0_5) := (blk_cell BK120.out 5).trans rfl; have hfz4_0 := blk_frozen BK120.out 0; have hfz4_1 := blk_frozen BK120.out 1; have hfz4_2 := blk_frozen BK120.out 2; have hfz4_3 := blk_frozen BK120.out 3; have hfz4_4 := blk_frozen BK120.out 4; have hfz4_5 := blk_frozen BK120.out 5))
    go_ret
    exact ⟨by first | rfl | (simp [errW_none, errW_some] <;> rfl) | (simp [*, errW_none, errW_some] <;> rfl), by repeat (first | (with_reducible first | exact HB.out | apply below_alloc | apply pw_below_drewN | apply below_drew1 | refine below_set ?_ GE120.out) | exact HB.out)⟩
  · rw [if_neg c2] at H
    have c2b0 : (a0_1 == 1) = false := beq_eq_false_iff_ne.mpr c2
    have c2b1 : (a0_1 != 1) = true := bne_iff_ne.mpr c2
    by_cases c5 : a0_1 = 2
    · rw [if_pos c5] at H
      have c5b0 : (a0_1 == 2) = true := beq_iff_eq.mpr c5
      have c5b1 : (a0_1 != 2) = false := bne_eq_false_iff_eq.mpr c5
      clear c5
      obtain rfl := Option.some.inj H
      go_enter Try.func26, Try.ntmps26
      go_wp2_with (first | ((with_reducible refine gate_dst (N := 1) rfl ?_); refine box_event ?hg (N := 1) ?hd (cs := #[.int .u8 a0_0, .int .u8 a0_1, .int .i64 a0_2, .string a0_3, .slice A0_4 l0_4.length c0_4, .slice A0_5 l0_5.length c0_5]) (t := 30) ?hr ?_; (case hd => rfl); (case hg => rfl); (case hr => first | (go_simp; done) | (go_simp; rfl)); intro gb120 hg w6 hbox hb; have n0_ := Aside0.mk (below_step (by repeat (first | (with_reducible first | exact HB.out | apply below_alloc | apply pw_below_drewN | apply below_drew1) | exact HB.out)) hb); have n1_ := Aside0.mk (hbox); have n2_ := Aside0.mk ((by rw [hg]; exact (below_size (by repeat (first | (with_reducible first | exact HB.out | apply below_alloc | apply pw_below_drewN | apply below_drew1) | exact HB.out))) : w.heap.size ≤ gb120)); have n3_ := Aside0.mk ((by rw [hg]; exact (below_size (by repeat (first | (with_reducible first | exact HB.out | apply below_alloc | apply pw_below_drewN | apply below_drew1) | exact HB.out))) : w.heap.size ≤ gb120)); clear HB; have HB := n0_; have BK120 := n1_; have GW120 := n2_; have GE120 := n3_; clear n0_ n1_ n2_ n3_; clear hb hbox hg; have hcz7_0 : w6.cell? ⟨gb120, 0, none⟩ = some (.int .u8 a0_0) := (blk_cell BK120.out 0).trans rfl; have hcz7_1 : w6.cell? ⟨gb120, 1, none⟩ = some (.int .u8 a0_1) := (blk_cell BK120.out 1).trans rfl; have hcz7_2 : w6.cell? ⟨gb120, 2, none⟩ = some (.int .i64 a0_2) := (blk_cell BK120.out 2).trans rfl; have hcz7_3 : w6.cell? ⟨gb120, 3, none⟩ = some (.string a0_3) := (blk_cell BK120.out 3).trans rfl; have hcz7_4 : w6.cell? ⟨gb120, 4, none⟩ = some (.slice A0_4 l0_4.length c0_4) := (blk_cell BK120.out 4).trans rfl; have hcz7_5 : w6.cell? ⟨gb120, 5, none⟩ = some (.slice A0_5 l0_5.length c0_5) := (blk_cell BK120.out 5).trans rfl; have hfz7_0 := blk_frozen BK120.out 0; have hfz7_1 := blk_frozen BK120.out 1; have hfz7_2 := blk_frozen BK120.out 2; have hfz7_3 := blk_frozen BK120.out 3; have hfz7_4 := blk_frozen BK120.out 4; have hfz7_5 := blk_frozen BK120.out 5))
      go_ret
      exact ⟨by first | rfl | (simp [errW_none, errW_some] <;> rfl) | (simp [*, errW_none, errW_some] <;> rfl), by repeat (first | (with_reducible first | exact HB.out | apply below_alloc | apply pw_below_drewN | apply below_drew1 | refine below_set ?_ GE120.out) | exact HB.out)⟩
    · rw [if_neg c5] at H
      have c5b0 : (a0_1 == 2) = false := beq_eq_false_iff_ne.mpr c5
      have c5b1 : (a0_1 != 2) = true := bne_iff_ne.mpr c5
      by_cases c8 : a0_1 = 3
      · rw [if_pos c8] at H
        have c8b0 : (a0_1 == 3) = true := beq_iff_eq.mpr c8
        have c8b1 : (a0_1 != 3) = false := bne_eq_false_iff_eq.mpr c8
        clear c8
        obtain rfl := Option.some.inj H
        go_enter Try.func26, Try.ntmps26
        go_wp2_with (first | ((with_reducible refine gate_dst (N := 1) rfl ?_); refine box_event ?hg (N := 1) ?hd (cs := #[.int .u8 a0_0, .int .u8 a0_1, .int .i64 a0_2, .string a0_3, .slice A0_4 l0_4.length c0_4, .slice A0_5 l0_5.length c0_5]) (t := 30) ?hr ?_; (case hd => rfl); (case hg => rfl); (case hr => first | (go_simp; done) | (go_simp; rfl)); intro gb120 hg w9 hbox hb; have n0_ := Aside0.mk (below_step (by repeat (first | (with_reducible first | exact HB.out | apply below_alloc | apply pw_below_drewN | apply below_drew1) | exact HB.out)) hb); have n1_ := Aside0.mk (hbox); have n2_ := Aside0.mk ((by rw [hg]; exact (below_size (by repeat (first | (with_reducible first | exact HB.out | apply below_alloc | apply pw_below_drewN | apply below_drew1) | exact HB.out))) : w.heap.size ≤ gb120)); have n3_ := Aside0.mk ((by rw [hg]; exact (below_size (by repeat (first | (with_reducible first | exact HB.out | apply below_alloc | apply pw_below_drewN | apply below_drew1) | exact HB.out))) : w.heap.size ≤ gb120)); clear HB; have HB := n0_; have BK120 := n1_; have GW120 := n2_; have GE120 := n3_; clear n0_ n1_ n2_ n3_; clear hb hbox hg; have hcz10_0 : w9.cell? ⟨gb120, 0, none⟩ = some (.int .u8 a0_0) := (blk_cell BK120.out 0).trans rfl; have hcz10_1 : w9.cell? ⟨gb120, 1, none⟩ = some (.int .u8 a0_1) := (blk_cell BK120.out 1).trans rfl; have hcz10_2 : w9.cell? ⟨gb120, 2, none⟩ = some (.int .i64 a0_2) := (blk_cell BK120.out 2).trans rfl; have hcz10_3 : w9.cell? ⟨gb120, 3, none⟩ = some (.string a0_3) := (blk_cell BK120.out 3).trans rfl; have hcz10_4 : w9.cell? ⟨gb120, 4, none⟩ = some (.slice A0_4 l0_4.length c0_4) := (blk_cell BK120.out 4).trans rfl; have hcz10_5 : w9.cell? ⟨gb120, 5, none⟩ = some (.slice A0_5 l0_5.length c0_5) := (blk_cell BK120.out 5).trans rfl; have hfz10_0 := blk_frozen BK120.out 0; have hfz10_1 := blk_frozen BK120.out 1; have hfz10_2 := blk_frozen BK120.out 2; have hfz10_3 := blk_frozen BK120.out 3; have hfz10_4 := blk_frozen BK120.out 4; have hfz10_5 := blk_frozen BK120.out 5))
        go_ret
        exact ⟨by first | rfl | (simp [errW_none, errW_some] <;> rfl) | (simp [*, errW_none, errW_some] <;> rfl), by repeat (first | (with_reducible first | exact HB.out | apply below_alloc | apply pw_below_drewN | apply below_drew1 | refine below_set ?_ GE120.out) | exact HB.out)⟩
      · rw [if_neg c8] at H
        have c8b0 : (a0_1 == 3) = false := beq_eq_false_iff_ne.mpr c8
        have c8b1 : (a0_1 != 3) = true := bne_iff_ne.mpr c8
        have H' := Aside0.mk H
        clear H
        go_enter Try.func26, Try.ntmps26
        go_wp2_with (first | ((with_reducible refine gate_dst (N := 1) rfl ?_); refine box_event ?hg (N := 1) ?hd (cs := #[.int .u8 a0_0, .int .u8 a0_1, .int .i64 a0_2, .string a0_3, .slice A0_4 l0_4.length c0_4, .slice A0_5 l0_5.length c0_5]) (t := 30) ?hr ?_; (case hd => rfl); (case hg => rfl); (case hr => first | (go_simp; done) | (go_simp; rfl)); intro gb120 hg w11 hbox hb; have n0_ := Aside0.mk (below_step (by repeat (first | (with_reducible first | exact HB.out | apply below_alloc | apply pw_below_drewN | apply below_drew1) | exact HB.out)) hb); have n1_ := Aside0.mk (hbox); have n2_ := Aside0.mk ((by rw [hg]; exact (below_size (by repeat (first | (with_reducible first | exact HB.out | apply below_alloc | apply pw_below_drewN | apply below_drew1) | exact HB.out))) : w.heap.size ≤ gb120)); have n3_ := Aside0.mk ((by rw [hg]; exact (below_size (by repeat (first | (with_reducible first | exact HB.out | apply below_alloc | apply pw_below_drewN | apply below_drew1) | exact HB.out))) : w.heap.size ≤ gb120)); clear HB; have HB := n0_; have BK120 := n1_; have GW120 := n2_; have GE120 := n3_; clear n0_ n1_ n2_ n3_; clear hb hbox hg; have hcz12_0 : w11.cell? ⟨gb120, 0, none⟩ = some (.int .u8 a0_0) := (blk_cell BK120.out 0).trans rfl; have hcz12_1 : w11.cell? ⟨gb120, 1, none⟩ = some (.int .u8 a0_1) := (blk_cell BK120.out 1).trans rfl; have hcz12_2 : w11.cell? ⟨gb120, 2, none⟩ = some (.int .i64 a0_2) := (blk_cell BK120.out 2).trans rfl; have hcz12_3 : w11.cell? ⟨gb120, 3, none⟩ = some (.string a0_3) := (blk_cell BK120.out 3).trans rfl; have hcz12_4 : w11.cell? ⟨gb120, 4, none⟩ = some (.slice A0_4 l0_4.length c0_4) := (blk_cell BK120.out 4).trans rfl; have hcz12_5 : w11.cell? ⟨gb120, 5, none⟩ = some (.slice A0_5 l0_5.length c0_5) := (blk_cell BK120.out 5).trans rfl; have hfz12_0 := blk_frozen BK120.out 0; have hfz12_1 := blk_frozen BK120.out 1; have hfz12_2 := blk_frozen BK120.out 2; have hfz12_3 := blk_frozen BK120.out 3; have hfz12_4 := blk_frozen BK120.out 4; have hfz12_5 := blk_frozen BK120.out 5))
        go_loopg [3, 34] k (fun kq v3 v34 w' => ∃ (x3_1 : Int) (x34_1 : Int), v3 = .int .i64 x3_1 ∧ v34 = .int .i64 x34_1 ∧ Aside0 (field_size.l0 kq x3_1 l0_5 (l0_5.length : Int) x34_1 = some r) ∧ Aside0 (kq ≤ k) ∧ Aside0 (w'.heap[gb120]? = some (.cells #[.int .u8 a0_0, .int .u8 a0_1, .int .i64 a0_2, .string a0_3, (.slice A0_4 l0_4.length c0_4), (.slice A0_5 l0_5.length c0_5)] 30 (0, 0))) ∧ Aside0 (Below w.heap.size w w'))
        case atStart => exact ⟨(2 + 2), (0), (by first | rfl | (simp; done) | (simp [*]; done)), (by first | rfl | (simp; done) | (simp [*]; done)), H', ⟨Nat.le_refl _⟩, ⟨by (with_reducible repeat (first | refine blk_drewN ?_ _ | refine blk_drew ?_ | refine blk_alloc ?_ _)); exact BK120.out⟩, ⟨by repeat (first | (with_reducible first | exact HB.out | apply below_alloc | apply pw_below_drewN | apply below_drew1 | refine below_set ?_ GE120.out) | exact HB.out)⟩⟩
        case round =>
          clear H'
          try clear c2
          try clear c2b0
          try clear c2b1
          try clear p2
          try clear c5
          try clear c5b0
          try clear c5b1
          try clear p6
          try clear c8
          try clear c8b0
          try clear c8b1
          try clear hcz10_0
          try clear hcz10_1
          try clear hcz10_2
          try clear hcz10_3
          try clear hcz10_4
          try clear hcz10_5
          try clear hcz12_0
          try clear hcz12_1
          try clear hcz12_2
          try clear hcz12_3
          try clear hcz12_4
          try clear hcz12_5
          try clear hcz4_0
          try clear hcz4_1
          try clear hcz4_2
          try clear hcz4_3
          try clear hcz4_4
          try clear hcz4_5
          try clear hcz7_0
          try clear hcz7_1
          try clear hcz7_2
          try clear hcz7_3
          try clear hcz7_4
          try clear hcz7_5
          try clear hfz10_0
          try clear hfz10_1
          try clear hfz10_2
          try clear hfz10_3
          try clear hfz10_4
          try clear hfz10_5
          try clear hfz12_0
          try clear hfz12_1
          try clear hfz12_2
          try clear hfz12_3
          try clear hfz12_4
          try clear hfz12_5
          try clear hfz4_0
          try clear hfz4_1
          try clear hfz4_2
          try clear hfz4_3
          try clear hfz4_4
          try clear hfz4_5
          try clear hfz7_0
          try clear hfz7_1
          try clear hfz7_2
          try clear hfz7_3
          try clear hfz7_4
          try clear hfz7_5
          obtain ⟨x3_1, x34_1, rfl, rfl, HA, HK1, BK120, HB⟩ := hrel
          cases gk with
          | zero => exact absurd HA.out (by simp [field_size.l0])
          | succ k1 =>
            have H := HA.out
            clear HA
            simp only [field_size.l0] at H
            by_cases c13 : x34_1 < (l0_5.length : Int)
            · rw [if_pos c13] at H
              have c13b0 : decide (x34_1 < (l0_5.length : Int)) = true := decide_eq_true c13
              clear c13
              by_cases c14 : 0 ≤ x34_1
              · rw [if_pos c14] at H
                have c14b0 : decide (0 ≤ x34_1) = true := decide_eq_true c14
                clear c14
                by_cases c15 : x34_1 < (l0_5.length : Int)
                · rw [if_pos c15] at H
                  have c15b0 : decide (x34_1 < (l0_5.length : Int)) = true := decide_eq_true c15
                  clear c15
                  have H' := Aside0.mk H
                  clear H
                  have p121 : 0 ≤ (x34_1 : Int) := of_decide_eq_true (by first | (with_reducible assumption) | assumption)
                  have q121 : x34_1 < (l0_5.length : Int) := of_decide_eq_true (by first | (with_reducible assumption) | assumption)
                  obtain ⟨ad121, e121, hx121_0⟩ := Kd.at_string HR0_5.out x34_1 p121 q121
                  cases e121
                  replace hx121_0 := (HB.out.cell (World.block_lt_of_cell? w _ hx121_0)).trans hx121_0
                  replace p121 := eq_true p121
                  replace q121 := eq_true q121
                  go_wp2
                  go_roundg k1
                  case measure => have := HK1.out; omega
                  case rel => exact ⟨(wrap64 (x3_1 + (wrap64 (2 + ((rdOf ByteArray.empty l0_5 x34_1).size : Int))))), (wrap64 (x34_1 + 1)), (by first | rfl | (simp; done) | (simp [*]; done)), (by first | rfl | (simp; done) | (simp [*]; done)), H', ⟨by have := HK1.out; omega⟩, ⟨by (with_reducible repeat (first | refine blk_drewN ?_ _ | refine blk_drew ?_ | refine blk_alloc ?_ _)); exact BK120.out⟩, ⟨by repeat (first | (with_reducible first | exact HB.out | apply below_alloc | apply pw_below_drewN | apply below_drew1 | refine below_set ?_ GE120.out) | exact HB.out)⟩⟩
                · rw [if_neg c15] at H
                  exact absurd H (by simp)
              · rw [if_neg c14] at H
                exact absurd H (by simp)
            · rw [if_neg c13] at H
              have c13b0 : decide (x34_1 < (l0_5.length : Int)) = false := decide_eq_false c13
              clear c13
              obtain rfl := Option.some.inj H
              go_wp2
              go_ret
              exact ⟨by first | rfl | (simp [errW_none, errW_some] <;> rfl) | (simp [*, errW_none, errW_some] <;> rfl), by repeat (first | (with_reducible first | exact HB.out | apply below_alloc | apply pw_below_drewN | apply below_drew1 | refine below_set ?_ GE120.out) | exact HB.out)⟩

/-! ### octets_add: function 55 -/
end Go.Proofs.Ytnhkbjihgepapaa.PF
-- printed by wprint.py (this session's program over the kit's print.py)
namespace Go.Proofs.Ytnhkbjihgepapaa.PF
open Go.RowKit Go.Proofs.YtnhkbjihgepapaaW.PrintWords Go.Proofs.YtnhkbjihgepapaaW.PrintLast Go.Proofs.YtnhkbjihgepapaaW.PrintMore
attribute [local go_sem] max2_int min2_int max_two min_two max_three min_three max_four min_four   -- for this text's walks alone
set_option linter.unusedVariables false
set_option linter.unusedSimpArgs false

/-! ### octets_Add64: function 46 -/
def octets_Add64.f (l0 : List Int) (a1 : Int) : Option (List Int) := if Oct.okAdd l0 a1 8 = true then some (l0 ++ Oct.be a1 8) else none
theorem octets_Add64.calls (A0 : Option Addr) (c0 : Nat) (l0 : List Int) (a1 : Int) (r : List Int) (w : World) (hr0 : Kd.C (Kd.int .u8) w A0 l0.length l0) (hc0 : l0.length ≤ c0) (h : octets_Add64.f l0 a1 = some r) :
    Calls Try.prog 46 #[.slice A0 l0.length c0, .int .u64 a1] w fun e w' => ∃ v0_ : Value, e = .returned (v0_) ∧ Kd.R (Kd.int .u8) 5 w' w.heap.size (fun _ => True) v0_ r ∧ Below w.heap.size w w' := by
  unfold octets_Add64.f at h
  split at h
  · rename_i ho
    obtain rfl := Option.some.inj h
    exact Fd.add64_ok A0 c0 l0 a1 w hr0 ho
  · cases h

end Go.Proofs.Ytnhkbjihgepapaa.PF
-- printed by wprint.py (this session's program over the kit's print.py)
namespace Go.Proofs.Ytnhkbjihgepapaa.PF
open Go.RowKit Go.Proofs.YtnhkbjihgepapaaW.PrintWords Go.Proofs.YtnhkbjihgepapaaW.PrintLast Go.Proofs.YtnhkbjihgepapaaW.PrintMore
attribute [local go_sem] max2_int min2_int max_two min_two max_three min_three max_four min_four   -- for this text's walks alone
set_option linter.unusedVariables false
set_option linter.unusedSimpArgs false

/-! ### octets_AddText: function 47 -/
def octets_AddText.f (l0 : List Int) (a1 : ByteArray) : Option (List Int × Int) := if Fd.okText l0 a1 = true then some (Fd.addTextE l0 a1) else none
theorem octets_AddText.calls (A0 : Option Addr) (c0 : Nat) (l0 : List Int) (a1 : ByteArray) (r1 : List Int) (r2 : Int) (w : World) (hr0 : Kd.C (Kd.int .u8) w A0 l0.length l0) (hc0 : l0.length ≤ c0) (h : octets_AddText.f l0 a1 = some (r1, r2)) :
    Calls Try.prog 47 #[.slice A0 l0.length c0, .string a1] w fun e w' => ∃ v0_ : Value, e = .returned (.tuple #[v0_, .int .i64 r2]) ∧ Kd.R (Kd.int .u8) 5 w' w.heap.size (fun _ => True) v0_ r1 ∧ Below w.heap.size w w' := by
  unfold octets_AddText.f at h
  split at h
  · rename_i ho
    have hh := Option.some.inj h
    have := Fd.addText_ok A0 c0 l0 a1 w hr0 ho
    rw [hh] at this
    exact this
  · cases h

end Go.Proofs.Ytnhkbjihgepapaa.PF
-- printed by wprint.py (this session's program over the kit's print.py)
namespace Go.Proofs.Ytnhkbjihgepapaa.PF
open Go.RowKit Go.Proofs.YtnhkbjihgepapaaW.PrintWords Go.Proofs.YtnhkbjihgepapaaW.PrintLast Go.Proofs.YtnhkbjihgepapaaW.PrintMore
attribute [local go_sem] max2_int min2_int max_two min_two max_three min_three max_four min_four   -- for this text's walks alone
set_option linter.unusedVariables false
set_option linter.unusedSimpArgs false

/-! ### octets_Add16: function 48 -/
def octets_Add16.f (l0 : List Int) (a1 : Int) : Option (List Int) := if Fd.ok16 l0 a1 = true then some (l0 ++ Oct.be a1 2) else none
theorem octets_Add16.calls (A0 : Option Addr) (c0 : Nat) (l0 : List Int) (a1 : Int) (r : List Int) (w : World) (hr0 : Kd.C (Kd.int .u8) w A0 l0.length l0) (hc0 : l0.length ≤ c0) (h : octets_Add16.f l0 a1 = some r) :
    Calls Try.prog 48 #[.slice A0 l0.length c0, .int .u16 a1] w fun e w' => ∃ v0_ : Value, e = .returned (v0_) ∧ Kd.R (Kd.int .u8) 5 w' w.heap.size (fun _ => True) v0_ r ∧ Below w.heap.size w w' := by
  unfold octets_Add16.f at h
  split at h
  · rename_i ho
    obtain rfl := Option.some.inj h
    exact Fd.add16_ok A0 c0 l0 a1 w hr0 ho
  · cases h

end Go.Proofs.Ytnhkbjihgepapaa.PF
