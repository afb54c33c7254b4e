/- What field.Right and field.All say, in plain Lean. -/
import Derived.Test.YtnhkbjihgepapaaPFx6
import Derived.Test.YtnhkbjihgepapaaFdRight
import Derived.Test.YtnhkbjihgepapaaEv
set_option linter.unusedVariables false
set_option linter.unusedSimpArgs false
namespace Go.Proofs.Ytnhkbjihgepapaa.Fd
open Go.RowKit Go.Proofs.YtnhkbjihgepapaaW.PrintWords Go.Proofs.YtnhkbjihgepapaaW.PrintLast Go.Proofs.YtnhkbjihgepapaaW.PrintMore Go.Proofs.Ytnhkbjihgepapaa.PF Go.Proofs.Ytnhkbjihgepapaa.Oct Go.Proofs.Ytnhkbjihgepapaa.EvK
abbrev Fl := S30
theorem wr1 {j : Nat} (h : j < 9000000000000000000) : wrap64 ((j : Int) + 1) = ((j + 1 : Nat) : Int) := by unfold wrap64; omega
theorem rdF (l : List Fl) (j : Nat) (h : j < l.length) : rd_T30 l (j : Int) = l[j] := by unfold rd_T30; simp [List.getD, h]
def rightX (x : Fl) : Bool := rightF x.f1 x.f2 x.f3 x.f4 x.f5
/-- Is the j-th right, and its tag above the one ahead? -/
def stepL (l : List Fl) (j : Nat) : Bool := match l[j]? with
  | some x => rightX x && (match j with | 0 => true | i + 1 => match l[i]? with | some y => decide (y.f0 < x.f0) | none => true)
  | none => true
def okL (l : List Fl) : Nat → Bool
  | 0 => true
  | j + 1 => okL l j && stepL l j
def rightL (l : List Fl) : Bool := okL l l.length && decide ((l.length : Int) ≤ 64)
theorem okL_bad (l : List Fl) (j : Nat) (h : okL l j = false) : ∀ n, j ≤ n → okL l n = false := by
  intro n hn
  induction n with
  | zero => obtain rfl : j = 0 := by omega
            exact h
  | succ n ih =>
    rcases Nat.lt_or_ge n j with h1 | h1
    · obtain rfl : j = n + 1 := by omega
      exact h
    · rw [okL, ih h1, Bool.false_and]
theorem okL_iff (l : List Fl) : ∀ n, okL l n = true ↔ ∀ j, j < n → stepL l j = true
  | 0 => ⟨fun _ j h => absurd h (Nat.not_lt_zero _), fun _ => rfl⟩
  | n + 1 => by
    rw [okL, Bool.and_eq_true, okL_iff l n]
    constructor
    · rintro ⟨h1, h2⟩ j hj
      rcases Nat.lt_succ_iff_lt_or_eq.1 hj with h | rfl
      · exact h1 j h
      · exact h2
    · exact fun h => ⟨fun j hj => h j (by omega), h n (by omega)⟩
theorem stepL_at (l : List Fl) (j : Nat) (h : j < l.length) : stepL l j = (rightX l[j] && (if h0 : j = 0 then true else decide ((l[j - 1]'(by omega)).f0 < l[j].f0))) := by
  unfold stepL
  rw [List.getElem?_eq_getElem h]
  cases j with
  | zero => rfl
  | succ i => simp only [List.getElem?_eq_getElem (show i < l.length by omega), Nat.add_sub_cancel, dif_neg (Nat.succ_ne_zero i)]
theorem right_l0 (l : List Fl) (hl : l.length ≤ 9000000000000000) : ∀ d j, l.length - j = d → j ≤ l.length → okL l j = true → Ev (fun k => field_Right.l0 k l l (l.length : Int) (j : Int)) (rightL l)
  | 0, j, hd, hj, ha => by
    obtain rfl : j = l.length := by omega
    refine Ev.stp (fun k => by rw [field_Right.l0]) (Ev.neg (by omega) (Ev.one ?_))
    unfold rightL
    rw [ha, Bool.true_and]
  | d + 1, j, hd, hj, ha => by
    have hlt : j < l.length := by omega
    have hst := stepL_at l j hlt
    have bad : stepL l j = false → false = rightL l := fun h => by
      unfold rightL
      rw [okL_bad l (j + 1) (by rw [okL, ha, h]; rfl) l.length (by omega)]
      rfl
    have good : stepL l j = true → Ev (fun k => field_Right.l0 k l l (l.length : Int) (wrap64 ((j : Int) + 1))) (rightL l) := fun h => by
      rw [wr1 (by omega)]
      exact right_l0 l hl d (j + 1) (by omega) (by omega) (by rw [okL, ha, h]; rfl)
    refine Ev.stp (fun k => by rw [field_Right.l0]) (Ev.pos (by omega) (Ev.pos (by omega) (Ev.pos (by omega) ?_)))
    rw [rdF l j hlt]
    refine Ev.bnd (a := rightX l[j]) (Ev.const rfl) ?_
    cases hx : rightX l[j] with
    | false => exact Ev.neg (by decide) (Ev.one (bad (by rw [hst, hx]; rfl)))
    | true =>
      refine Ev.pos rfl ?_
      cases j with
      | zero => exact Ev.neg (by decide) (good (by rw [hst, hx]; rfl))
      | succ i =>
        rw [hx, Bool.true_and, dif_neg (Nat.succ_ne_zero i)] at hst
        simp only [Nat.add_sub_cancel] at hst
        have e1 : wrap64 (((i + 1 : Nat) : Int) - 1) = (i : Int) := by unfold wrap64; omega
        rw [e1]
        refine Ev.pos (by omega) (Ev.pos (by omega) (Ev.pos (by omega) ?_))
        rw [rdF l i (by omega)]
        by_cases h : (l[i]'(by omega)).f0 ≥ l[i + 1].f0
        · exact Ev.pos h (Ev.one (bad (by rw [hst]; exact decide_eq_false (by omega))))
        · exact Ev.neg h (good (by rw [hst]; exact decide_eq_true (by omega)))
theorem right_ev (l : List Fl) (hl : l.length ≤ 9000000000000000) : Ev (fun k => field_Right.f k l) (rightL l) := right_l0 l hl _ 0 rfl (Nat.zero_le _) rfl
theorem rightL_calls (l : List Fl) (A : Option Addr) (c : Nat) (w : World) (hl : l.length ≤ 9000000000000000) (hr : Kd.C k30 w A l.length l) (hc : l.length ≤ c) : Calls Try.prog 10 #[.slice A l.length c] w fun e w' => e = .returned (.bool (rightL l)) ∧ Below w.heap.size w w' := by
  obtain ⟨k, hk⟩ := Ev.the (right_ev l hl)
  exact field_Right.calls k A c l _ w hr hc hk
/-! ### reading -/
def i64 (v : Int) : Int := wrap64 v
def nsF (l : List Int) : Nat → Int → List Int → Option (List Int × Int)
  | 0, p, acc => some (acc, p)
  | k + 1, p, acc => if nok l p 8 = true then nsF l k (p + 8) (acc ++ [i64 (nv l p 8)]) else none
def tsF (l : List Int) : Nat → Int → List ByteArray → Option (List ByteArray × Int)
  | 0, p, acc => some (acc, p)
  | k + 1, p, acc => if tok l p = true then tsF l k (tend l p) (acc ++ [strOfNums (txt l p)]) else none
/-- What stands behind a tag and a kind. -/
def bodyF (l : List Int) (tag kind p : Int) : Option (Fl × Int) :=
  if kind = 1 then (if nok l p 8 = true then some (⟨tag, kind, i64 (nv l p 8), ⟨#[]⟩, [], []⟩, p + 8) else none)
  else if kind = 2 then (if tok l p = true then some (⟨tag, kind, 0, strOfNums (txt l p), [], []⟩, tend l p) else none)
  else if kind = 3 then (if nok l p 2 = true then (match nsF l (nv l p 2).toNat (p + 2) [] with | some r => some (⟨tag, kind, 0, ⟨#[]⟩, r.1, []⟩, r.2) | none => none) else none)
  else if kind = 4 then (if nok l p 2 = true then (match tsF l (nv l p 2).toNat (p + 2) [] with | some r => some (⟨tag, kind, 0, ⟨#[]⟩, [], r.1⟩, r.2) | none => none) else none)
  else some (⟨tag, kind, 0, ⟨#[]⟩, [], []⟩, p)
/-- The field at a place, and the place behind it. -/
def oneF (l : List Int) (p : Int) : Option (Fl × Int) := if nok l p 1 = true then (if nok l (p + 1) 1 = true then bodyF l (nv l p 1) (nv l (p + 1) 1) (p + 2) else none) else none
def allL (l : List Int) : Nat → Int → List Fl → Option (List Fl × Int)
  | 0, p, acc => some (acc, p)
  | k + 1, p, acc => match oneF l p with
    | some r => allL l k r.2 (acc ++ [r.1])
    | none => none
def judge (n : Nat) : Option (List Fl × Int) → List Fl × Int
  | some r => if r.2 = n ∧ rightL r.1 = true then (r.1, 0) else ([], 40)
  | none => ([], 40)
def allF (l : List Int) : List Fl × Int :=
  if l.length = 0 ∨ 65000 < l.length then ([], 40) else
  judge l.length (allL l (rd l 0).toNat 1 [])
def okBytes (l : List Int) : Bool := decide (l.length ≤ 140737488355328) && l.all (fun x => decide (0 ≤ x ∧ x ≤ 255))
theorem okBytes_iff {l : List Int} : okBytes l = true ↔ l.length ≤ 140737488355328 ∧ ∀ x ∈ l, 0 ≤ x ∧ x ≤ 255 := by
  unfold okBytes
  rw [Bool.and_eq_true, decide_eq_true_iff, List.all_eq_true]
  simp only [decide_eq_true_iff]
end Go.Proofs.Ytnhkbjihgepapaa.Fd
