/- A whole struct is loaded, stored: in a drawn region (exec_load, exec_store), in a walk (wl_load, wl_store). -/
import Derived.Test.YtfggcdpipolahaaProg
import Derived.Test.YtfggcdpipolahaaWMore
import Derived.Test.YtfggcdpipolahaaWLast
import Derived.WalkKit
import Derived.Laws.CopyOwn
import Derived.Deep.MidRow
set_option linter.unusedVariables false
set_option linter.unusedSimpArgs false
namespace Go.Proofs.Ytfggcdpipolahaa.PF
open Go.RowKit Go.Proofs.YtfggcdpipolahaaW.PrintWords Go.Proofs.YtfggcdpipolahaaW.PrintLast Go.Proofs.YtfggcdpipolahaaW.PrintMore
theorem exec_load {P : Program} {o : Oper} {a : Act} {t : TypeId} {x : Operand} {p V : Value} {w' : World} (ho : o.op = .load t x) (hx : a.eval x = p) (hld : (Instr.loadAt t p).run P w' = .ok V w') : (execOp a.eval o).run P w' = .ok (.value V) w' := by
  unfold execOp
  rw [ho]
  simp only [hx, Sem.run_bind, hld, Result.andThen_ok]
  rfl
theorem exec_store {P : Program} {o : Oper} {a : Act} {t : TypeId} {p v : Operand} {W : World} {g : Nat} {t0 : TypeId} {old cells : Array Value} (ho : o.op = .store t p v) (hp : a.eval p = .pointer (some ⟨g, 0, none⟩)) (hv : a.eval v = .agg cells) (hg : W.heap[g]? = some (.cells old t0 (0, 0)))
    (hi : (P.info? t).map (·.size) = some cells.size) (hs : old.size = cells.size) (h1 : cells.all (·.oneCell') = true) : (execOp a.eval o).run P W = .ok .skip (W.setRow g cells) := by
  have h2 := run_storeVar_row (P := P) W g t0 t old cells hg hi hs h1
  unfold execOp
  rw [ho]
  simp only [hp, hv, Instr.storeAt, Instr.sureAddr, Sem.run_bind, Sem.run_pure, Result.andThen_ok, h2]
theorem wl_load {P : Program} {ops : Array Oper} {rest : List Oper} {o : Oper} {a : Act} {Q : Exit → Act → World → Prop} {W : World} (t : TypeId) (x : Operand) (ho : o.op = .load t x) (hgd : o.guard = none) (p V : Value) (hx : a.eval x = p) (hld : (Instr.loadAt t p).run P W = .ok V W) (h : wpList P ops Q rest (a.put o.dst V) W) : wpList P ops Q (o :: rest) a W :=
  Kd.event_run hgd (by
    unfold execOp
    rw [ho]
    simp only [hx, Sem.run_bind, hld, Result.andThen_ok]
    rfl) h
theorem wl_store {P : Program} {ops : Array Oper} {rest : List Oper} {o : Oper} {a : Act} {Q : Exit → Act → World → Prop} (t : TypeId) (p v : Operand) {W : World} {g : Nat} {t0 : TypeId} {old cells : Array Value} (ho : o.op = .store t p v) (hgd : o.guard = none) (hp : a.eval p = .pointer (some ⟨g, 0, none⟩)) (hv : a.eval v = .agg cells) (hg : W.heap[g]? = some (.cells old t0 (0, 0)))
    (hi : (P.info? t).map (·.size) = some cells.size) (hs : old.size = cells.size) (h1 : cells.all (·.oneCell') = true)
    (h : wpList P ops Q rest (a.put o.dst undef) (W.setRow g cells)) : wpList P ops Q (o :: rest) a W :=
  wpList_plain hgd fun K hK => by
    unfold Oper.wp
    rw [exec_store ho hp hv hg hi hs h1]
    exact hK _ _ h
end Go.Proofs.Ytfggcdpipolahaa.PF
