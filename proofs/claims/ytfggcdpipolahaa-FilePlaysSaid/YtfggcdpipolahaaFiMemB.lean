/- A disk's box: its files are loaded and stored at once; an operation is laid behind the others. -/
import Derived.Test.YtfggcdpipolahaaFiDoneG
import Derived.Deep.MidRow
set_option linter.unusedVariables false
set_option linter.unusedSimpArgs false
namespace Go.Proofs.Ytfggcdpipolahaa.PF
open Go.RowKit Go.Proofs.YtfggcdpipolahaaW.PrintWords Go.Proofs.YtfggcdpipolahaaW.PrintLast Go.Proofs.YtfggcdpipolahaaW.PrintMore
theorem infoOp : (Try.prog.info? 77).map (·.size) = some 4 := by kernel_rfl
theorem infoOpZ : (Try.prog.info? 77).map (fun i => (i.zero, i.size, i.bytes)) = some (some (.agg #[.int .i64 0, .bool false, .int .i64 0, .slice none 0 0]), 4, 48) := by kernel_rfl
theorem exec_store3 {P : Program} {o : Oper} {a : Act} {t : TypeId} {p v : Operand} {W : World} {b k : Nat} {t0 : TypeId} {old : Array Value} {x y z : Value} (ho : o.op = .store t p v) (hp : a.eval p = .pointer (some ⟨b, k, none⟩)) (hv : a.eval v = .agg #[x, y, z]) (hg : W.heap[b]? = some (.cells old t0 (0, 0)))
    (hi : (P.info? t).map (·.size) = some 3) (hk : k + 3 ≤ old.size) (h1 : x.oneCell' = true) (h2 : y.oneCell' = true) (h3 : z.oneCell' = true) : (execOp a.eval o).run P W = .ok .skip (((W.setCell ⟨b, k, none⟩ x).setCell ⟨b, k + 1, none⟩ y).setCell ⟨b, k + 1 + 1, none⟩ z) := by
  have ht : W.there b k (#[x, y, z] : Array Value).size := fun j hj => by
    have hj' : j < 3 := hj
    refine ⟨?_, blk_frozen hg _⟩
    rw [blk_cell hg, Array.getElem?_eq_getElem (by omega)]
    rfl
  have h := run_storeAt_mid (P := P) W b k t #[x, y, z] ht hi (by simp [h1, h2, h3])
  unfold execOp
  rw [ho]
  simp only [hp, hv, Sem.run_bind, h, Result.andThen_ok]
  rfl
theorem DB.ld3 {w : World} {b : Nat} {d : Dk} (h : DB w b d) (k : Nat) (s : S3) (h0 : d.cells[k]? = some (.slice s.a.1 s.a.2.1 s.a.2.2)) (h1 : d.cells[k + 1]? = some (.slice s.b.1 s.b.2.1 s.b.2.2)) (h2 : d.cells[k + 2]? = some (.slice s.c.1 s.c.2.1 s.c.2.2)) :
    (Instr.loadAt 61 (.pointer (some ⟨b, k, none⟩))).run Try.prog w = .ok s.agg w := by
  refine (run_loadAt_mid (P := Try.prog) w b k 61 [.slice s.a.1 s.a.2.1 s.a.2.2, .slice s.b.1 s.b.2.1 s.b.2.2, .slice s.c.1 s.c.2.1 s.c.2.2] _ ?_ Try.underlying61 rfl infoFs)
  intro j v hv
  match j, hv with
  | 0, hv => exact (h.cell k h0).trans hv
  | 1, hv => exact (h.cell (k + 1) h1).trans hv
  | 2, hv => exact (h.cell (k + 2) h2).trans hv
  | j + 3, hv => simp at hv
theorem DB.ld_now {w : World} {b : Nat} {d : Dk} (h : DB w b d) : (Instr.loadAt 61 (.pointer (some ⟨b, 1, none⟩))).run Try.prog w = .ok d.now.agg w := h.ld3 1 d.now rfl rfl rfl
theorem DB.ld_safe {w : World} {b : Nat} {d : Dk} (h : DB w b d) : (Instr.loadAt 61 (.pointer (some ⟨b, 4, none⟩))).run Try.prog w = .ok d.safe.agg w := h.ld3 4 d.safe rfl rfl rfl
theorem op_ld {w : World} {b : Nat} {f n : Int} {c : Bool} {D : Sl} (h : w.heap[b]? = some (.cells #[.int .i64 f, .bool c, .int .i64 n, .slice D.1 D.2.1 D.2.2] 77 (0, 0))) : (Instr.loadAt 77 (.pointer (some ⟨b, 0, none⟩))).run Try.prog w = .ok (.agg #[.int .i64 f, .bool c, .int .i64 n, .slice D.1 D.2.1 D.2.2]) w := by
  have hld := run_loadVar_row (P := Try.prog) w b 77 77 #[.int .i64 f, .bool c, .int .i64 n, .slice D.1 D.2.1 D.2.2] (0, 0) _ h Try.underlying77 rfl infoOp
  simp only [Instr.loadAt, Instr.sureAddr, Sem.run_bind, Sem.run_pure, Result.andThen_ok, hld]
section
variable {w w1 w2 : World} {b : Nat} {ok ok' : Nat → Prop} {d d' : Dk} {rs rs' : List Rop} {a a' : ADk}
theorem Mem.ops_lt (h : Mem w b ok d rs a) : ∀ k, d.opsB = some k → k < w.heap.size := Kd.R_lt h.ops
theorem Mem.ops_ne (h : Mem w b ok d rs a) : some b ≠ d.opsB := Kd.R_ne h.ops h.box (by decide)
theorem Mem.push (h : Mem w b ok d rs a) {r : Rop} {o : AOp} {A : Option Addr} {n c : Nat} (hR : Kd.R kOp 77 w1 0 (fun _ => True) (.slice A n c) (rs ++ [r])) (hg : w.grownBy w1 d.opsB) (hr : RelO ok w r o) :
    Mem (w1.setCell ⟨b, 7, none⟩ (.slice A n c)) b ok { d with ops := (A, n, c) } (rs ++ [r]) { a with ops := a.ops ++ [o] } := by
  have hb : DB w1 b d := (hg.block b (blk_lt h.box) h.ops_ne).trans h.box
  have f : ∀ t y, By ok w t y → By ok w1 t y := fun t y g => g.over h.ops (by decide) hg
  exact hb.remem (grown_set 7 _) (hb.set 7 _ rfl) (h.now.map f) (h.safe.map f) (ops_tight hR) (Rel.snoc ⟨hr.f, hr.cut, hr.n, f _ _ hr.data⟩ (h.rel.map f)) h.down h.arm h.fail h.wth
/-- The box after three stores. -/
theorem DB.set3 {w : World} {b : Nat} {d : Dk} (h : DB w b d) (k : Nat) (x y z : Value) {d' : Dk} (e : ((d.cells.setIfInBounds k x).setIfInBounds (k + 1) y).setIfInBounds (k + 1 + 1) z = d'.cells) : DB (((w.setCell ⟨b, k, none⟩ x).setCell ⟨b, k + 1, none⟩ y).setCell ⟨b, k + 1 + 1, none⟩ z) b d' := by
  have := blk_set (blk_set (blk_set h k x) (k + 1) y) (k + 1 + 1) z
  rw [e] at this
  exact this
theorem grown_set3 {w : World} {b : Nat} (k : Nat) (x y z : Value) : w.grownBy (((w.setCell ⟨b, k, none⟩ x).setCell ⟨b, k + 1, none⟩ y).setCell ⟨b, k + 1 + 1, none⟩ z) (some b) := grown_then (grown_then (grown_set k x) (grown_set (k + 1) y)) (grown_set (k + 1 + 1) z)
abbrev Dk.setNow (d : Dk) (s : S3) : Dk := { d with n0 := s.a, n1 := s.b, n2 := s.c }
abbrev Dk.setSafe (d : Dk) (s : S3) : Dk := { d with s0 := s.a, s1 := s.b, s2 := s.c }
theorem Mem.setNow (h : Mem w b ok d rs a) {s : S3} {x : Fs} (hs : By3 ok w s x) : Mem (((w.setCell ⟨b, 1, none⟩ (.slice s.a.1 s.a.2.1 s.a.2.2)).setCell ⟨b, 1 + 1, none⟩ (.slice s.b.1 s.b.2.1 s.b.2.2)).setCell ⟨b, 1 + 1 + 1, none⟩ (.slice s.c.1 s.c.2.1 s.c.2.2)) b ok (d.setNow s) rs { a with now := x } :=
  h.rebox (grown_set3 1 _ _ _) (h.box.set3 1 _ _ _ rfl) hs h.safe h.ops h.rel h.down h.arm h.fail h.wth
theorem Mem.setSafe (h : Mem w b ok d rs a) {s : S3} {x : Fs} (hs : By3 ok w s x) : Mem (((w.setCell ⟨b, 4, none⟩ (.slice s.a.1 s.a.2.1 s.a.2.2)).setCell ⟨b, 4 + 1, none⟩ (.slice s.b.1 s.b.2.1 s.b.2.2)).setCell ⟨b, 4 + 1 + 1, none⟩ (.slice s.c.1 s.c.2.1 s.c.2.2)) b ok (d.setSafe s) rs { a with safe := x } :=
  h.rebox (grown_set3 4 _ _ _) (h.box.set3 4 _ _ _ rfl) h.now hs h.ops h.rel h.down h.arm h.fail h.wth
end
end Go.Proofs.Ytfggcdpipolahaa.PF
