/- Nodes are made, listed, and turned up and down as the document defines. -/
import Derived.Test.YthcikldhlohjbaaPNx14
import Derived.Test.YthcikldhlohjbaaPNOpenNodesTells
import Derived.Test.YthcikldhlohjbaaPlainNodesC
set_option linter.unusedVariables false
set_option linter.unusedSimpArgs false
namespace Go.Proofs.Ythcikldhlohjbaa.Pure
open Go.RowKit Go.Proofs.YthcikldhlohjbaaW.PrintWords Go.Proofs.YthcikldhlohjbaaW.PrintLast Go.Proofs.YthcikldhlohjbaaW.PrintMore Go.Proofs.Ythcikldhlohjbaa.EvK Go.Proofs.Ythcikldhlohjbaa.PN Go.Proofs.Ythcikldhlohjbaa.PN.NodesTellsOpen
theorem tl1_ev (l : List S55) (hl : l.length ≤ 1048576) : ∀ d (m : List S55) j, j + d = m.length → m.length ≤ 1048576 → Ev (fun k => musterlaw13_NodesTells.l1 k l l m (j : Int)) true := by
  intro d
  induction d with
  | zero =>
    intro m j hj hm
    refine Ev.stp (fun k => by rw [musterlaw13_NodesTells.l1]) ?_
    exact Ev.neg (by omega) (Ev.bnd (sameN l hl) (Ev.pos rfl (Ev.bnd awake_ev (Ev.one rfl))))
  | succ d ih =>
    intro m j hj hm
    refine Ev.stp (fun k => by rw [musterlaw13_NodesTells.l1]) ?_
    refine Ev.pos (by omega) (Ev.pos (by omega) ?_)
    rw [wr1 (by omega)]
    exact ih _ (j + 1) (by simp; omega) (by simpa using hm)
theorem tl0_ev (l m : List S55) (hl : l.length ≤ 1048576) (hm : m.length ≤ 1048576) : ∀ d (c : List S55) j, j + d = c.length → c.length ≤ 1048576 → Ev (fun k => musterlaw13_NodesTells.l0 k l l c m (j : Int)) true := by
  intro d
  induction d with
  | zero =>
    intro c j hj hc
    refine Ev.stp (fun k => by rw [musterlaw13_NodesTells.l0]) ?_
    exact Ev.neg (by omega) (tl1_ev l hl m.length m 0 (by omega) hm)
  | succ d ih =>
    intro c j hj hc
    refine Ev.stp (fun k => by rw [musterlaw13_NodesTells.l0]) ?_
    refine Ev.pos (by omega) (Ev.pos (by omega) ?_)
    rw [wr1 (by omega)]
    exact ih _ (j + 1) (by simp; omega) (by simpa using hc)
theorem newN_len (cs : List Int) : (newN cs).1.length ≤ cs.length := by unfold newN; split <;> simp
theorem failN_len (l : List S55) (i : Int) : (failN l i).1.length ≤ l.length := by
  unfold failN
  split
  · split <;> simp
  · simp
theorem riseN_len (l : List S55) (i : Int) : (riseN l i).1.length ≤ l.length := by
  unfold riseN
  split
  · split
    · simp
    · split <;> simp
  · simp
theorem NodesTells (x0 : List (Int)) (x1 : List (S55)) (x2 : Int) (w0 : (x0.length * 8 ≤ 140737488351232 ∧ ∀ yx0 ∈ x0, (Lit.int .i64 yx0).wf = true)) (w1 : (x1.length * 24 ≤ 140737488351232 ∧ ∀ yx1 ∈ x1, g55 yx1)) (w2 : (Lit.int .i64 x2).wf = true) (u0 : x0.length ≤ 1048576) (u1 : x1.length ≤ 1048576) : ∃ k, PN.musterlaw13_NodesTells.f k x0 (PN.cutTo 200 x1) x2 = some true := by
  have hL : (PN.cutTo 200 x1).length ≤ 1048576 := Nat.le_trans (cutTo_le 200 x1) u1
  generalize PN.cutTo 200 x1 = l at hL ⊢
  have n1 := newN_len x0
  have n2 := failN_len l x2
  have n3 := riseN_len l x2
  obtain ⟨on, hon⟩ : ∃ on : Nat, x2 % 4294967296 = (on : Int) := ⟨(x2 % 4294967296).toNat, by omega⟩
  refine Ev.the ?_
  unfold PN.musterlaw13_NodesTells.f
  refine Ev.bnd (copyN l hL) (Ev.bnd (new_ev x0 u0) (Ev.bnd (refNew x0 u0) (Ev.bnd (Ev.const (fail_f l x2)) (Ev.bnd (refFail l hL x2) (Ev.bnd (Ev.const (rise_f l x2)) (Ev.bnd (refRise l hL x2) ?_))))))
  refine Ev.bnd (sameN _ (by omega)) (Ev.pos rfl (Ev.pos rfl (Ev.bnd (sameN _ (by omega)) (Ev.pos rfl (Ev.pos rfl (Ev.bnd (sameN _ (by omega)) (Ev.pos rfl (Ev.pos rfl ?_))))))))
  refine Ev.bnd (Ev.const rfl) (Ev.bnd (refRight l hL) ?_)
  rw [bne_self_eq_false]
  refine Ev.stp (fun k => by rw [musterlaw13_NodesTells.j0]) ?_
  rw [hon]
  refine Ev.neg (by decide) (Ev.bnd (Ev.const rfl) (Ev.bnd (refUp_ev l hL) (Ev.pos rfl (Ev.bnd (coresN l hL) (Ev.bnd (refCores l hL) (Ev.bnd (sameI _ (by simpa using hL)) (Ev.pos rfl ?_)))))))
  refine Ev.bnd (Ev.const rfl) (Ev.bnd (refAble_ev l hL on (by omega) _) ?_)
  rw [bne_self_eq_false]
  refine Ev.stp (fun k => by rw [musterlaw13_NodesTells.j1]) ?_
  exact Ev.neg (by decide) (tl0_ev l _ hL (by omega) _ _ 0 (Nat.zero_add _) (by omega))
end Go.Proofs.Ythcikldhlohjbaa.Pure
