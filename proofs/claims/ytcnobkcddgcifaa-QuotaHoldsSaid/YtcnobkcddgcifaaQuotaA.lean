/- QuotaAdds: usage adds up. (A part of the print PT.) -/
import Derived.Test.YtcnobkcddgcifaaQuotaK
set_option linter.unusedVariables false
set_option linter.unusedSimpArgs false
namespace Go.Proofs.Ytcnobkcddgcifaa.PT
open Go.RowKit Go.Proofs.YtcnobkcddgcifaaW.PrintWords Go.Proofs.YtcnobkcddgcifaaW.PrintLast Go.Proofs.YtcnobkcddgcifaaW.PrintMore Go.Proofs.Ytcnobkcddgcifaa.Gen Go.Proofs.Ytcnobkcddgcifaa.EvK
/-- Here the walk stops. -/
def Stop (p : Prop) : Prop := p
theorem wild_f (s : S32) : musterlaw15_wild.f s.f0 s.f1 s.f2 s.f3 s.f4 s.f5 s.f6 s.f7 = some (!tameS s) := by
  unfold musterlaw15_wild.f tameS
  by_cases h1 : s.f4 < 1
  · rw [if_pos h1, decide_eq_false (by omega)]; rfl
  rw [if_neg h1]
  by_cases h2 : s.f4 > 64
  · rw [if_pos h2, decide_eq_false (by omega)]; rfl
  rw [if_neg h2]
  by_cases h3 : s.f5 < 1
  · rw [if_pos h3, decide_eq_false (by omega)]; rfl
  rw [if_neg h3]
  by_cases h4 : s.f5 > 64
  · rw [decide_eq_true h4, decide_eq_false (by omega)]; rfl
  · rw [decide_eq_false h4, decide_eq_true (by omega)]; rfl
/-- The jobs of the first j that do not run. -/
def idleQ (l : List S53) (j : Nat) : List S53 := (l.take j).filter (fun x => !(x.f4 == 2))
/-- What the law holds from its rows on. -/
structure AQ (w W : World) (g : Nat) (cs : Array Value) (q : List S59) (ac : List S57) (A1 : Option Addr) (a : List S53) (A2 : Option Addr) (b : List S53) (A3 : Option Addr) (A4 : Option Addr) : Prop where
  bel : Below w.heap.size w W
  box : W.heap[g]? = some (.cells cs 28 (0, 0))
  cfg : Cfg W cs q ac
  ra : Kd.C k53 W A1 a.length a
  rb : Kd.C k53 W A2 b.length b
  rc : Kd.C k53 W A3 (a ++ b).length (a ++ b)
  rd : Kd.C k53 W A4 (idleQ (a ++ b) (a ++ b).length).length (idleQ (a ++ b) (a ++ b).length)
theorem AQ.below {w W W1 : World} {g : Nat} {cs : Array Value} {q : List S59} {ac : List S57} {A1 A2 A3 A4 : Option Addr} {a b : List S53} (h : AQ w W g cs q ac A1 a A2 b A3 A4) (hb : Below W.heap.size W W1) : AQ w W1 g cs q ac A1 a A2 b A3 A4 :=
  ⟨below_then h.bel h.bel.size hb, (hb.block g (blk_lt h.box)).trans h.box, h.cfg.below hb, Kd.C_below h.ra hb, Kd.C_below h.rb hb, Kd.C_below h.rc hb, Kd.C_below h.rd hb⟩
end Go.Proofs.Ytcnobkcddgcifaa.PT
