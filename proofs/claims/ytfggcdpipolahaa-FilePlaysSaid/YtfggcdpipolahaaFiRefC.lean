/- The document's disk: Failing. -/
import Derived.Test.YtfggcdpipolahaaFiRefB
set_option linter.unusedVariables false
set_option linter.unusedSimpArgs false
namespace Go.Proofs.Ytfggcdpipolahaa.PF
open Go.RowKit Go.Proofs.YtfggcdpipolahaaW.PrintWords Go.Proofs.YtfggcdpipolahaaW.PrintLast Go.Proofs.YtfggcdpipolahaaW.PrintMore
attribute [local go_sem] max2_int min2_int max_two min_two
def RD.failing (r : RD) (n e : Int) : RD × Int := if n < 0 ∨ e ≠ 4 ∧ e ≠ 5 then (r, 2) else ({ r with fail := n, wth := e }, 0)
set_option maxRecDepth 100000 in
set_option maxHeartbeats 4000000 in
theorem failing_calls (r : RD) (n x : Int) (w : World) : Calls Try.prog 48 #[.agg r.cells, .int .i64 n, .int .i64 x] w fun e w' => e = .returned (.tuple #[.agg (r.failing n x).1.cells, .int .i64 (r.failing n x).2]) ∧ Below w.heap.size w w' := by
  have HD := Lib.hid (blk_alloc (blk_new w (.cells r.cells 53)) RZ)
  have HZ := Lib.hid (show ((w.alloc (.cells r.cells 53)).alloc RZ).heap[w.heap.size + 1]? = some (.cells rz 53 (0, 0)) by rw [← World.size_alloc w (.cells r.cells 53)]; exact blk_new _ _)
  have HB := Lib.hid (below_alloc (below_alloc (Below.refl w.heap.size w) (.cells r.cells 53)) RZ)
  unfold RD.failing
  by_cases h0 : n < 0
  · rw [if_pos (.inl h0)]
    go_enter Try.func48, Try.ntmps48
    go_upto_region 1 with (fail)
    unfold RZ rz at HD HZ HB
    generalize (w.alloc (.cells r.cells 53)).alloc _ = W at HD HZ HB ⊢
    go_wp2_with (first | (refine wl_load 53 (.tmp 3) rfl rfl _ _ rfl (rd_ld HD.out) ?_) | (refine wl_store (old := rz) (cells := r.cells) 53 (.tmp 6) (.tmp 18) rfl rfl rfl rfl HZ.out infoRd rfl (by simp [Value.oneCell', RD.cells]) ?_))
    refine bodyPost_ret (results_ct rfl _ _ (w.heap.size + 1) 53 r.cells (0, 0) _ rfl (setRow_heap _ _ _ _ _ _ HZ.out) Try.underlying53 rfl infoRd) rfl ?_
    exact ⟨rfl, below_setRow HB.out (by omega) _⟩
  by_cases h4 : x ≠ 4 ∧ x ≠ 5
  · rw [if_pos (.inr h4)]
    have n4 : (x != 4) = true := by simp [h4.1]
    have n5 : (x != 5) = true := by simp [h4.2]
    clear h4
    go_enter Try.func48, Try.ntmps48
    go_upto_region 1 with (fail)
    unfold RZ rz at HD HZ HB
    generalize (w.alloc (.cells r.cells 53)).alloc _ = W at HD HZ HB ⊢
    go_wp2_with (first | (refine wl_load 53 (.tmp 3) rfl rfl _ _ rfl (rd_ld HD.out) ?_) | (refine wl_store (old := rz) (cells := r.cells) 53 (.tmp 6) (.tmp 18) rfl rfl rfl rfl HZ.out infoRd rfl (by simp [Value.oneCell', RD.cells]) ?_))
    refine bodyPost_ret (results_ct rfl _ _ (w.heap.size + 1) 53 r.cells (0, 0) _ rfl (setRow_heap _ _ _ _ _ _ HZ.out) Try.underlying53 rfl infoRd) rfl ?_
    exact ⟨rfl, below_setRow HB.out (by omega) _⟩
  · rw [if_neg (by omega)]
    have hx : x = 4 ∨ x = 5 := by omega
    clear h4
    rcases hx with rfl | rfl
    · skip
      go_enter Try.func48, Try.ntmps48
      go_upto_region 1 with (fail)
      unfold RZ rz at HD HZ HB
      generalize (w.alloc (.cells r.cells 53)).alloc _ = W at HD HZ HB ⊢
      obtain ⟨g, hg⟩ : ∃ g, g = w.heap.size := ⟨_, rfl⟩
      rw [← hg] at HD HZ ⊢
      have HG := Lib.hid (show w.heap.size ≤ g by omega)
      have HNe := Lib.hid (show g + 1 ≠ g by omega)
      have c6 : W.cell? ⟨g, 6, none⟩ = some (.int .i64 r.fail) := (blk_cell HD.out 6).trans rfl
      have z6 : W.frozen? ⟨g, 6, none⟩ = false := blk_frozen HD.out 6
      have c7 : W.cell? ⟨g, 7, none⟩ = some (.int .i64 r.wth) := (blk_cell HD.out 7).trans rfl
      have z7 : W.frozen? ⟨g, 7, none⟩ = false := blk_frozen HD.out 7
      clear hg
      go_upto_region 5 with (fail)
      have HW := Lib.hid (blk_set (blk_set HD.out 6 (.int .i64 n)) 7 (.int .i64 4))
      have HF := Lib.hid (blk_far (blk_far HZ.out HNe.out (.int .i64 n) (p := ⟨g, 6, none⟩)) HNe.out (.int .i64 4) (p := ⟨g, 7, none⟩))
      have HBe := Lib.hid ((HB.out.setCell (p := ⟨g, 6, none⟩) HG.out (.int .i64 n)).setCell (p := ⟨g, 7, none⟩) HG.out (.int .i64 4))
      generalize ((W.setCell ⟨g, 6, none⟩ (.int .i64 n)).setCell ⟨g, 7, none⟩ (.int .i64 4)) = W8 at HW HF HBe ⊢
      replace HW : Hid (W8.heap[g]? = some (.cells ({ r with fail := n, wth := 4 } : RD).cells 53 (0, 0))) := HW
      clear c6 z6 c7 z7 HD HZ HB
      go_wp2_with (first | (refine wl_load 53 (.tmp 3) rfl rfl _ _ rfl (rd_ld HW.out) ?_) | (refine wl_store (old := rz) (cells := ({ r with fail := n, wth := 4 } : RD).cells) 53 (.tmp 6) (.tmp 23) rfl rfl rfl rfl HF.out infoRd rfl (by simp [Value.oneCell', RD.cells]) ?_))
      refine bodyPost_ret (results_ct rfl _ _ (g + 1) 53 ({ r with fail := n, wth := 4 } : RD).cells (0, 0) _ rfl (setRow_heap _ _ _ _ _ _ HF.out) Try.underlying53 rfl infoRd) rfl ?_
      exact ⟨rfl, below_setRow HBe.out (by have := HG.out; omega) _⟩
    · skip
      go_enter Try.func48, Try.ntmps48
      go_upto_region 1 with (fail)
      unfold RZ rz at HD HZ HB
      generalize (w.alloc (.cells r.cells 53)).alloc _ = W at HD HZ HB ⊢
      obtain ⟨g, hg⟩ : ∃ g, g = w.heap.size := ⟨_, rfl⟩
      rw [← hg] at HD HZ ⊢
      have HG := Lib.hid (show w.heap.size ≤ g by omega)
      have HNe := Lib.hid (show g + 1 ≠ g by omega)
      have c6 : W.cell? ⟨g, 6, none⟩ = some (.int .i64 r.fail) := (blk_cell HD.out 6).trans rfl
      have z6 : W.frozen? ⟨g, 6, none⟩ = false := blk_frozen HD.out 6
      have c7 : W.cell? ⟨g, 7, none⟩ = some (.int .i64 r.wth) := (blk_cell HD.out 7).trans rfl
      have z7 : W.frozen? ⟨g, 7, none⟩ = false := blk_frozen HD.out 7
      clear hg
      go_upto_region 5 with (fail)
      have HW := Lib.hid (blk_set (blk_set HD.out 6 (.int .i64 n)) 7 (.int .i64 5))
      have HF := Lib.hid (blk_far (blk_far HZ.out HNe.out (.int .i64 n) (p := ⟨g, 6, none⟩)) HNe.out (.int .i64 5) (p := ⟨g, 7, none⟩))
      have HBe := Lib.hid ((HB.out.setCell (p := ⟨g, 6, none⟩) HG.out (.int .i64 n)).setCell (p := ⟨g, 7, none⟩) HG.out (.int .i64 5))
      generalize ((W.setCell ⟨g, 6, none⟩ (.int .i64 n)).setCell ⟨g, 7, none⟩ (.int .i64 5)) = W8 at HW HF HBe ⊢
      replace HW : Hid (W8.heap[g]? = some (.cells ({ r with fail := n, wth := 5 } : RD).cells 53 (0, 0))) := HW
      clear c6 z6 c7 z7 HD HZ HB
      go_wp2_with (first | (refine wl_load 53 (.tmp 3) rfl rfl _ _ rfl (rd_ld HW.out) ?_) | (refine wl_store (old := rz) (cells := ({ r with fail := n, wth := 5 } : RD).cells) 53 (.tmp 6) (.tmp 23) rfl rfl rfl rfl HF.out infoRd rfl (by simp [Value.oneCell', RD.cells]) ?_))
      refine bodyPost_ret (results_ct rfl _ _ (g + 1) 53 ({ r with fail := n, wth := 5 } : RD).cells (0, 0) _ rfl (setRow_heap _ _ _ _ _ _ HF.out) Try.underlying53 rfl infoRd) rfl ?_
      exact ⟨rfl, below_setRow HBe.out (by have := HG.out; omega) _⟩
end Go.Proofs.Ytfggcdpipolahaa.PF
