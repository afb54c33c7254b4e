/- job.Right, with a job held as one value. (A part of the print PJ.) -/
import Derived.Test.YthcikldhlohjbaaPSx10
import Derived.Test.YthcikldhlohjbaaPSx12
import Derived.Test.YthcikldhlohjbaaPSx13
import Derived.Lib.Hide
import Derived.Deep.MidRow
import Derived.Deep.QuietTactic
import Derived.BigQuiet
set_option linter.unusedVariables false
set_option linter.unusedSimpArgs false
namespace Go.Proofs.Ythcikldhlohjbaa.PS.Jb
open Go.RowKit Go.Proofs.YthcikldhlohjbaaW.PrintWords Go.Proofs.YthcikldhlohjbaaW.PrintLast Go.Proofs.YthcikldhlohjbaaW.PrintMore Go.Proofs.Ythcikldhlohjbaa.Ones
/-- A job's cells. -/
def jobC (x : S43) (A : Option Addr) (c : Nat) : Array Value := #[.int .i64 x.f0, .int .i64 x.f1, .int .i64 x.f2, .string x.f3.f0, .string x.f3.f1, .string x.f3.f2, .string x.f3.f3, .int .i64 x.f3.f4, .int .i64 x.f3.f5, .int .i64 x.f3.f6, .slice A x.f3.f7.length c, .int .u8 x.f4, .int .i64 x.f5, .int .i64 x.f6, .int .i64 x.f7, .int .u32 x.f8, .int .i64 x.f9]
def jobV (x : S43) (A : Option Addr) (c : Nat) : Value := .agg (jobC x A c)
/-- A box that holds a job. -/
def JBox (w : World) (b : Nat) (x : S43) (A : Option Addr) (c : Nat) : Prop := w.heap[b]? = some (.cells (jobC x A c) 43 (0, 0))
theorem JBox.keep {w w' : World} {b : Nat} {x : S43} {A : Option Addr} {c : Nat} (h : JBox w b x A c) (hb : Below w.heap.size w w') : JBox w' b x A c := blk_below h hb
theorem JBox.cell {w : World} {b : Nat} {x : S43} {A : Option Addr} {c : Nat} (h : JBox w b x A c) (i : Nat) {v : Value} (hv : (jobC x A c)[i]? = some v) : w.cell? ⟨b, i, none⟩ = some v := (blk_cell h i).trans hv
theorem jobC_one (x : S43) (A : Option Addr) (c : Nat) : (jobC x A c).all (·.oneCell') = true := by unfold jobC; simp [Value.oneCell']
theorem job_info : (Try.prog.info? 43).map (·.size) = some 17 := by kernel_rfl
theorem JBox.load {w : World} {b : Nat} {x : S43} {A : Option Addr} {c : Nat} (h : JBox w b x A c) : (Instr.loadAt 43 (.pointer (some ⟨b, 0, none⟩))).run Try.prog w = .ok (jobV x A c) w := by
  have h1 := run_loadVar_row (P := Try.prog) w b 43 43 (jobC x A c) (0, 0) _ h Try.underlying43 rfl job_info
  simp only [Instr.loadAt, Instr.sureAddr, Sem.run_bind, Sem.run_pure, Result.andThen_ok, h1]
  rfl
theorem wl_load {P : Program} {ops : Array Oper} {rest : List Oper} {o : Oper} {a : Act} {Q : Exit → Act → World → Prop} {W : World} (t : TypeId) (x : Operand) (ho : o.op = .load t x) (hgd : o.guard = none) (p V : Value) (hx : a.eval x = p) (hld : (Instr.loadAt t p).run P W = .ok V W) (h : wpList P ops Q rest (a.put o.dst V) W) : wpList P ops Q (o :: rest) a W :=
  Kd.event_run hgd (by
    unfold execOp
    rw [ho]
    simp only [hx, Sem.run_bind, hld, Result.andThen_ok]
    rfl) h
theorem exec_load {P : Program} {o : Oper} {a : Act} {t : TypeId} {x : Operand} {p V : Value} {w' : World} (ho : o.op = .load t x) (hx : a.eval x = p) (hld : (Instr.loadAt t p).run P w' = .ok V w') : (execOp a.eval o).run P w' = .ok (.value V) w' := by
  unfold execOp
  rw [ho]
  simp only [hx, Sem.run_bind, hld, Result.andThen_ok]
  rfl
/-! ### what a job is -/
def shapedJ (x : S43) : Bool := decide (1 ≤ x.f0 ∧ x.f0 ≤ 1073741824 ∧ 0 ≤ x.f1 ∧ x.f1 ≤ x.f0 ∧ 0 ≤ x.f2 ∧ 0 ≤ x.f5 ∧ x.f5 ≤ 1099511627776 ∧ 1 ≤ x.f3.f4 ∧ x.f3.f4 ≤ 32 ∧ 1 ≤ x.f3.f5 ∧ x.f3.f5 ≤ 64 ∧ 1 ≤ x.f3.f6 ∧ x.f3.f6 ≤ 1048576)
def ranJ (x : S43) : Bool := decide (ones x.f8 = x.f3.f4 ∧ x.f5 ≤ x.f6 ∧ x.f6 ≤ 1099511627776)
def waitedJ (x : S43) : Bool := decide (x.f8 = 0 ∧ x.f6 = 0 ∧ x.f9 = 0)
def overJ (x : S43) : Bool := decide (x.f5 ≤ x.f7 ∧ x.f7 ≤ 1099511627776)
def rightS (st on en sr ex : Int) (ran waited over : Bool) : Bool :=
  if st = 1 then waited && decide (en = 0)
  else if st = 2 then ran && decide (en = 0) && decide (ex = 0)
  else if st = 8 then waited && over
  else if st = 6 ∧ on = 0 then waited && over
  else if st = 6 ∨ st = 3 ∨ st = 5 ∨ st = 7 then ran && over && decide (sr ≤ en) && decide (ex = 0)
  else if st = 4 then ran && over && decide (sr ≤ en) && decide (ex ≠ 0)
  else false
def rightJ (x : S43) : Bool := shapedJ x && rightS x.f4 x.f8 x.f7 x.f6 x.f9 (ranJ x) (waitedJ x) (overJ x)
theorem shaped_f (x : S43) : job_shaped.f x.f0 x.f1 x.f2 x.f3.f0 x.f3.f1 x.f3.f2 x.f3.f3 x.f3.f4 x.f3.f5 x.f3.f6 x.f3.f7 x.f4 x.f5 x.f6 x.f7 x.f8 x.f9 = some (shapedJ x) := by
  unfold job_shaped.f shapedJ
  by_cases h1 : x.f0 < 1
  · rw [if_pos h1]; (congr 1; rw [eq_comm, decide_eq_false_iff_not]; omega)
  rw [if_neg h1]
  by_cases h2 : x.f0 > 1073741824
  · rw [if_pos h2]; (congr 1; rw [eq_comm, decide_eq_false_iff_not]; omega)
  rw [if_neg h2]
  by_cases h3 : x.f1 < 0
  · rw [if_pos h3]; (congr 1; rw [eq_comm, decide_eq_false_iff_not]; omega)
  rw [if_neg h3]
  by_cases h4 : x.f1 > x.f0
  · rw [if_pos h4]; (congr 1; rw [eq_comm, decide_eq_false_iff_not]; omega)
  rw [if_neg h4]
  by_cases h5 : x.f2 < 0
  · rw [if_pos h5]; (congr 1; rw [eq_comm, decide_eq_false_iff_not]; omega)
  rw [if_neg h5]
  by_cases h6 : x.f5 < 0
  · rw [if_pos h6]; (congr 1; rw [eq_comm, decide_eq_false_iff_not]; omega)
  rw [if_neg h6]
  by_cases h7 : x.f5 > 1099511627776
  · rw [if_pos h7]; (congr 1; rw [eq_comm, decide_eq_false_iff_not]; omega)
  rw [if_neg h7]
  by_cases g1 : x.f3.f4 ≥ 1
  rotate_left
  · rw [if_neg g1]; (congr 1; rw [eq_comm, decide_eq_false_iff_not]; omega)
  rw [if_pos g1]
  by_cases g2 : x.f3.f4 ≤ 32
  rotate_left
  · rw [if_neg g2]; (congr 1; rw [eq_comm, decide_eq_false_iff_not]; omega)
  rw [if_pos g2]
  by_cases g3 : x.f3.f5 ≥ 1
  rotate_left
  · rw [if_neg g3]; (congr 1; rw [eq_comm, decide_eq_false_iff_not]; omega)
  rw [if_pos g3]
  by_cases g4 : x.f3.f5 ≤ 64
  rotate_left
  · rw [if_neg g4]; (congr 1; rw [eq_comm, decide_eq_false_iff_not]; omega)
  rw [if_pos g4]
  by_cases g5 : x.f3.f6 ≥ 1
  rotate_left
  · rw [if_neg g5]; (congr 1; rw [eq_comm, decide_eq_false_iff_not]; omega)
  rw [if_pos g5]
  congr 1
  rw [decide_eq_decide]
  omega
theorem shaped_calls (x : S43) (A : Option Addr) (c : Nat) (w : World) (hr : Kd.C k104 w A x.f3.f7.length x.f3.f7) (hc : x.f3.f7.length ≤ c) : Calls Try.prog 90 #[jobV x A c] w fun e w' => e = .returned (.bool (shapedJ x)) ∧ Below w.heap.size w w' :=
  job_shaped.calls x.f0 x.f1 x.f2 x.f3.f0 x.f3.f1 x.f3.f2 x.f3.f3 x.f3.f4 x.f3.f5 x.f3.f6 A c x.f3.f7 x.f4 x.f5 x.f6 x.f7 x.f8 x.f9 (shapedJ x) w hr hc (shaped_f x)
theorem count_calls (on : Int) (h : 0 ≤ on ∧ on < 4294967296) (w : World) : Calls Try.prog 53 #[.int .u32 on] w fun e w' => e = .returned (.int .i64 (ones on)) ∧ Below w.heap.size w w' := by
  refine nodeset_Count.calls on (ones on) w ?_
  unfold nodeset_Count.f bits_OnesCount32.f
  rw [if_pos h]
  rfl
theorem count_quiet (on : Int) (h : 0 ≤ on ∧ on < 4294967296) (w : World) : Calls Try.prog 53 #[.int .u32 on] w fun e w' => e = .returned (.int .i64 (ones on)) ∧ ∃ m, w' = w.drewN m := by
  have H := Lib.hid (fun W => ones_quiet on h.1 h.2 W)
  clear h
  go_enter Try.func53, Try.ntmps53
  go_wp2_with fail
  refine (H.out _).mono ?_
  rintro e w1 ⟨rfl, m, rfl⟩
  go_wp2
  go_ret
  exact ⟨rfl, _, rfl⟩
end Go.Proofs.Ythcikldhlohjbaa.PS.Jb
