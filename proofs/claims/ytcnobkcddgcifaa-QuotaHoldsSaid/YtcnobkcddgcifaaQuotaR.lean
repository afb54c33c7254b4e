/- quota.Right, in plain Lean. (A part of the print PT.) -/
import Derived.Test.YtcnobkcddgcifaaPTx30
import Derived.Test.YtcnobkcddgcifaaPlainTreeQ
import Derived.Test.YtcnobkcddgcifaaQuotaP
set_option linter.unusedVariables false
set_option linter.unusedSimpArgs false
namespace Go.Proofs.Ytcnobkcddgcifaa.PT
open Go.RowKit Go.Proofs.YtcnobkcddgcifaaW.PrintWords Go.Proofs.YtcnobkcddgcifaaW.PrintLast Go.Proofs.YtcnobkcddgcifaaW.PrintMore Go.Proofs.Ytcnobkcddgcifaa.Gen Go.Proofs.Ytcnobkcddgcifaa.EvK
/-- May a quality stand behind those ahead of it? -/
def okQ (ahead : List S59) (x : S59) : Bool := nameOK x.f0 && !(ahead.any (isQ x.f0)) && decide (0 ≤ x.f1 ∧ x.f1 ≤ 1000) && limQ [x.f2, x.f3]
def allQ (l : List S59) : Nat → Bool
  | 0 => true
  | j + 1 => allQ l j && (match l[j]? with | some x => okQ (l.take j) x | none => true)
def rightQ (q : List S59) (a : List S57) : Bool := allQ q q.length && decide (1 ≤ q.length ∧ q.length ≤ 8) && rightA a
theorem allQ_step (l : List S59) (j : Nat) (h : j < l.length) : allQ l (j + 1) = (allQ l j && okQ (l.take j) l[j]) := by rw [allQ, List.getElem?_eq_getElem h]
theorem allQ_bad (l : List S59) (j : Nat) (h : allQ l j = false) : ∀ n, j ≤ n → allQ l n = false := by
  intro n hn
  induction n with
  | zero => obtain rfl : j = 0 := by omega
            exact h
  | succ n ih =>
    rcases Nat.lt_or_ge n j with h1 | h1
    · obtain rfl : j = n + 1 := by omega
      exact h
    · rw [allQ, ih h1, Bool.false_and]
theorem rdQ (l : List S59) (j : Nat) (h : j < l.length) : rd_T59 l (j : Int) = l[j] := by unfold rd_T59; simp [List.getD, h]
theorem right_l0 (c : List Int) (ps : List S87) (ac : List S57) (q : List S59) (pl : Int) (hq : q.length ≤ 9223372036854775807) : ∀ d j, q.length - j = d → j ≤ q.length → allQ q j = true → Ev (fun k => quota_Right.l0 k q (q.length : Int) (j : Int) c ps ac q pl) (rightQ q ac)
  | 0, j, hd, hj, ha => by
    obtain rfl : j = q.length := by omega
    refine Ev.stp (fun k => by rw [quota_Right.l0]) (Ev.neg (by omega) ?_)
    by_cases h1 : (q.length : Int) ≥ 1
    · by_cases h2 : (q.length : Int) ≤ 8
      · refine Ev.pos h1 (Ev.pos h2 (Ev.bnd (a := rightA ac) (Ev.const rfl) (Ev.one ?_)))
        unfold rightQ
        rw [ha, decide_eq_true (by omega)]
        simp
      · refine Ev.pos h1 (Ev.neg h2 (Ev.one ?_))
        unfold rightQ
        rw [decide_eq_false (by omega)]
        simp
    · refine Ev.neg h1 (Ev.one ?_)
      unfold rightQ
      rw [decide_eq_false (by omega)]
      simp
  | d + 1, j, hd, hj, ha => by
    have hlt : j < q.length := by omega
    have hst := allQ_step q j hlt
    rw [ha, Bool.true_and] at hst
    have bad : okQ (q.take j) q[j] = false → false = rightQ q ac := fun h => by
      rw [h] at hst
      unfold rightQ
      rw [allQ_bad q (j + 1) hst q.length (by omega)]
      rfl
    refine Ev.stp (fun k => by rw [quota_Right.l0]) (Ev.pos (by omega) (Ev.pos (by omega) (Ev.pos (by omega) ?_)))
    rw [rdQ q j hlt, Int.toNat_natCast]
    refine Ev.bnd (a := nameOK q[j].f0) (Ev.const rfl) ?_
    by_cases h1 : nameOK q[j].f0 = true
    case neg => exact Ev.neg h1 (Ev.one (bad (by unfold okQ; rw [Bool.not_eq_true] at h1; rw [h1]; rfl)))
    refine Ev.pos h1 (Ev.pos (by omega) (Ev.bnd (a := idxOf (q.take j) (isQ q[j].f0)) (Ev.const rfl) ?_))
    have hge := idxOf_ge (q.take j) (isQ q[j].f0)
    cases h2 : (q.take j).any (isQ q[j].f0) with
    | true =>
      rw [h2] at hge
      exact Ev.pos (of_decide_eq_true hge) (Ev.one (bad (by unfold okQ; rw [h1, h2]; rfl)))
    | false =>
      rw [h2] at hge
      refine Ev.neg (of_decide_eq_false hge) ?_
      by_cases h3 : q[j].f1 < 0
      · exact Ev.pos h3 (Ev.one (bad (by unfold okQ; rw [decide_eq_false (by omega)]; simp)))
      refine Ev.neg h3 ?_
      by_cases h4 : q[j].f1 > 1000
      · exact Ev.pos h4 (Ev.one (bad (by unfold okQ; rw [decide_eq_false (by omega)]; simp)))
      refine Ev.neg h4 (Ev.bnd (a := limQ [q[j].f2, q[j].f3]) (Ev.const rfl) ?_)
      by_cases h5 : limQ [q[j].f2, q[j].f3] = true
      case neg => exact Ev.neg h5 (Ev.one (bad (by unfold okQ; rw [Bool.not_eq_true] at h5; rw [h5]; simp)))
      refine Ev.pos h5 ?_
      rw [show wrap64 ((j : Int) + 1) = ((j + 1 : Nat) : Int) by unfold wrap64; omega]
      refine right_l0 c ps ac q pl hq d (j + 1) (by omega) (by omega) ?_
      rw [hst]
      unfold okQ
      rw [h1, h2, h5, decide_eq_true (by omega)]
      rfl
theorem right_ev (c : List Int) (ps : List S87) (ac : List S57) (q : List S59) (pl : Int) (hq : q.length ≤ 9223372036854775807) : Ev (fun k => quota_Right.f k c ps ac q pl) (rightQ q ac) := right_l0 c ps ac q pl hq _ 0 rfl (Nat.zero_le _) rfl
/-- A configuration's value. -/
def cfgV (A0 : Option Addr) (n0 c0 : Nat) (A1 : Option Addr) (n1 c1 : Nat) (A2 : Option Addr) (n2 c2 : Nat) (A3 : Option Addr) (n3 c3 : Nat) (pl : Int) : Array Value := #[.slice A0 n0 c0, .slice A1 n1 c1, .slice A2 n2 c2, .slice A3 n3 c3, .int .u8 pl]
/-- A configuration in memory. -/
structure Cfg (w : World) (cs : Array Value) (q : List S59) (ac : List S57) : Prop where
  is : ∃ A0 c0 l0 A1 c1 l1 A2 c2 A3 c3 pl, cs = cfgV A0 (l0 : List Int).length c0 A1 (l1 : List S87).length c1 A2 ac.length c2 A3 q.length c3 pl ∧ Kd.C (Kd.int .i64) w A0 l0.length l0 ∧ l0.length ≤ c0 ∧ Kd.C k87 w A1 l1.length l1 ∧ l1.length ≤ c1 ∧ Kd.C k57 w A2 ac.length ac ∧ ac.length ≤ c2 ∧ Kd.C k59 w A3 q.length q ∧ q.length ≤ c3
theorem Cfg.below {w w1 : World} {cs : Array Value} {q : List S59} {ac : List S57} (h : Cfg w cs q ac) (hb : Below w.heap.size w w1) : Cfg w1 cs q ac := by
  obtain ⟨A0, c0, l0, A1, c1, l1, A2, c2, A3, c3, pl, he, h0, h1, h2, h3, h4, h5, h6, h7⟩ := h.is
  exact ⟨A0, c0, l0, A1, c1, l1, A2, c2, A3, c3, pl, he, Kd.C_below h0 hb, h1, Kd.C_below h2 hb, h3, Kd.C_below h4 hb, h5, Kd.C_below h6 hb, h7⟩
theorem cright_calls {w : World} {cs : Array Value} {q : List S59} {ac : List S57} (h : Cfg w cs q ac) : Calls Try.prog 15 #[.agg cs] w fun e w' => e = .returned (.bool (rightQ q ac)) ∧ Below w.heap.size w w' := by
  obtain ⟨A0, c0, l0, A1, c1, l1, A2, c2, A3, c3, pl, rfl, h0, h1, h2, h3, h4, h5, h6, h7⟩ := h.is
  have hq : q.length ≤ 9223372036854775807 := h6.2.1
  obtain ⟨k, hk⟩ := Ev.the (right_ev l0 l1 ac q pl hq)
  exact quota_Right.calls k A0 c0 l0 A1 c1 l1 A2 c2 ac A3 c3 q pl (rightQ q ac) w h0 h1 h2 h3 h4 h5 h6 h7 hk
end Go.Proofs.Ytcnobkcddgcifaa.PT
