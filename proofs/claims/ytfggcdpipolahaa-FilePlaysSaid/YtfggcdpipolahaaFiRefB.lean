/- The document's disk: an operation goes by; New, Armed, Failing. -/
import Derived.Test.YtfggcdpipolahaaFiRef
set_option linter.unusedVariables false
set_option linter.unusedSimpArgs false
namespace Go.Proofs.Ytfggcdpipolahaa.PF
open Go.RowKit Go.Proofs.YtfggcdpipolahaaW.PrintWords Go.Proofs.YtfggcdpipolahaaW.PrintLast Go.Proofs.YtfggcdpipolahaaW.PrintMore
attribute [local go_sem] max2_int min2_int max_two min_two
set_option maxRecDepth 100000 in
set_option maxHeartbeats 4000000 in
theorem go_down (r : RD) (hd : r.down = true) (w : World) : Calls Try.prog 57 #[.agg r.cells] w fun e w' => e = .returned (.tuple #[.agg r.cells, .int .i64 6]) ∧ Below w.heap.size w w' := by
  go_enter Try.func57, Try.ntmps57
  go_upto_region 1 with (fail)
  have HD := Lib.hid (blk_alloc (blk_new w (.cells r.cells 53)) RZ)
  have HZ := Lib.hid (show ((w.alloc (.cells r.cells 53)).alloc RZ).heap[w.heap.size + 1]? = some (.cells rz 53 (0, 0)) by rw [← World.size_alloc w (.cells r.cells 53)]; exact blk_new _ _)
  have HB := Lib.hid (below_alloc (below_alloc (Below.refl w.heap.size w) (.cells r.cells 53)) RZ)
  unfold RZ rz at HD HZ HB
  generalize (w.alloc (.cells r.cells 53)).alloc _ = W at HD HZ HB ⊢
  obtain ⟨g, hg⟩ : ∃ g, g = w.heap.size := ⟨_, rfl⟩
  rw [← hg] at HD HZ ⊢
  have HG := Lib.hid (show w.heap.size ≤ g by omega)
  have c4 : W.cell? ⟨g, 4, none⟩ = some (.bool true) := by rw [blk_cell HD.out 4, ← hd]; rfl
  clear hd hg
  go_wp2_with (first | (refine wl_load 53 (.tmp 1) rfl rfl _ _ rfl (rd_ld HD.out) ?_) | (refine wl_store (old := rz) (cells := r.cells) 53 (.tmp 2) (.tmp 8) rfl rfl rfl rfl HZ.out infoRd rfl (by simp [Value.oneCell', RD.cells]) ?_))
  refine bodyPost_ret (results_ct rfl _ _ (g + 1) 53 r.cells (0, 0) _ rfl (setRow_heap _ _ _ _ _ _ HZ.out) Try.underlying53 rfl infoRd) rfl ?_
  exact ⟨rfl, below_setRow HB.out (by have := HG.out; omega) _⟩
/-- An operation goes by. -/
theorem op_calls (r : RD) (hb : -1 ≤ r.arm ∧ r.arm ≤ 9223372036854775807 ∧ -1 ≤ r.fail ∧ r.fail ≤ 9223372036854775807) (w : World) : Calls Try.prog 57 #[.agg r.cells] w fun e w' => e = .returned (.tuple #[.agg r.go.1.cells, .int .i64 r.go.2]) ∧ Below w.heap.size w w' := by
  unfold RD.go
  by_cases hd1 : r.down = true
  · rw [if_pos hd1]; exact go_down r hd1 w
  · have hd : r.down = false := by cases h : r.down with | true => exact absurd h hd1 | false => rfl
    rw [if_neg hd1]
    have hA : r.arm < 0 ∨ r.arm = 0 ∨ 0 < r.arm := by omega
    have hF : r.fail < 0 ∨ r.fail = 0 ∨ 0 < r.fail := by omega
    have la : less r.arm = if 0 ≤ r.arm then r.arm - 1 else r.arm := rfl
    have lf : less r.fail = if 0 ≤ r.fail then r.fail - 1 else r.fail := rfl
    rw [la, lf]
    rcases hA with hA | hA | hA
    · rw [if_neg (show ¬ r.arm = 0 by omega), if_neg (show ¬ 0 ≤ r.arm by omega)]
      rcases hF with hF | hF | hF
      · rw [if_neg (show ¬ r.fail = 0 by omega), if_neg (show ¬ 0 ≤ r.fail by omega)]; exact go_case00 r hd hA hF hb w
      · rw [if_pos hF, if_pos (show 0 ≤ r.fail by omega)]; exact go_case01 r hd hA hF hb w
      · rw [if_neg (show ¬ r.fail = 0 by omega), if_pos (show 0 ≤ r.fail by omega)]; exact go_case02 r hd hA hF hb w
    · rw [if_pos hA, if_pos (show 0 ≤ r.arm by omega)]
      rcases hF with hF | hF | hF
      · rw [if_neg (show ¬ 0 ≤ r.fail by omega)]; exact go_case10 r hd hA hF hb w
      · rw [if_pos (show 0 ≤ r.fail by omega)]; exact go_case11 r hd hA hF hb w
      · rw [if_pos (show 0 ≤ r.fail by omega)]; exact go_case12 r hd hA hF hb w
    · rw [if_neg (show ¬ r.arm = 0 by omega), if_pos (show 0 ≤ r.arm by omega)]
      rcases hF with hF | hF | hF
      · rw [if_neg (show ¬ r.fail = 0 by omega), if_neg (show ¬ 0 ≤ r.fail by omega)]; exact go_case20 r hd hA hF hb w
      · rw [if_pos hF, if_pos (show 0 ≤ r.fail by omega)]; exact go_case21 r hd hA hF hb w
      · rw [if_neg (show ¬ r.fail = 0 by omega), if_pos (show 0 ≤ r.fail by omega)]; exact go_case22 r hd hA hF hb w
def RD.new : RD := ⟨⟨(none, 0, 0), (none, 0, 0), (none, 0, 0)⟩, (none, 0, 0), false, -1, -1, 0⟩
theorem rnew_calls (w : World) : Calls Try.prog 27 #[] w fun e w' => e = .returned (.agg RD.new.cells) ∧ Below w.heap.size w w' := by
  have HZ := Lib.hid (blk_new w RZ)
  go_enter Try.func27, Try.ntmps27
  go_wp2_with (first | (refine wl_store (old := rz) (cells := RD.new.cells) 53 (.tmp 0) (.tmp 1) rfl rfl rfl rfl HZ.out infoRd rfl (by simp [Value.oneCell', RD.cells, RD.new]) ?_))
  refine bodyPost_ret (results_cell_row rfl _ _ w.heap.size 53 RD.new.cells (0, 0) _ rfl (setRow_heap _ _ _ _ _ _ HZ.out) Try.underlying53 rfl infoRd) rfl ?_
  exact ⟨rfl, below_setRow (below_alloc (Below.refl _ _) _) (Nat.le_refl _) _⟩
def RD.armed (r : RD) (n : Int) : RD × Int := if n < 0 then (r, 2) else ({ r with arm := n }, 0)
set_option maxRecDepth 100000 in
set_option maxHeartbeats 4000000 in
theorem armed_calls (r : RD) (n : Int) (w : World) : Calls Try.prog 47 #[.agg r.cells, .int .i64 n] w fun e w' => e = .returned (.tuple #[.agg (r.armed n).1.cells, .int .i64 (r.armed n).2]) ∧ Below w.heap.size w w' := by
  have HD := Lib.hid (blk_alloc (blk_new w (.cells r.cells 53)) RZ)
  have HZ := Lib.hid (show ((w.alloc (.cells r.cells 53)).alloc RZ).heap[w.heap.size + 1]? = some (.cells rz 53 (0, 0)) by rw [← World.size_alloc w (.cells r.cells 53)]; exact blk_new _ _)
  have HB := Lib.hid (below_alloc (below_alloc (Below.refl w.heap.size w) (.cells r.cells 53)) RZ)
  unfold RD.armed
  by_cases h0 : n < 0
  · rw [if_pos h0]
    go_enter Try.func47, Try.ntmps47
    go_upto_region 1 with (fail)
    unfold RZ rz at HD HZ HB
    generalize (w.alloc (.cells r.cells 53)).alloc _ = W at HD HZ HB ⊢
    go_wp2_with (first | (refine wl_load 53 (.tmp 2) rfl rfl _ _ rfl (rd_ld HD.out) ?_) | (refine wl_store (old := rz) (cells := r.cells) 53 (.tmp 4) (.tmp 8) rfl rfl rfl rfl HZ.out infoRd rfl (by simp [Value.oneCell', RD.cells]) ?_))
    refine bodyPost_ret (results_ct rfl _ _ (w.heap.size + 1) 53 r.cells (0, 0) _ rfl (setRow_heap _ _ _ _ _ _ HZ.out) Try.underlying53 rfl infoRd) rfl ?_
    exact ⟨rfl, below_setRow HB.out (by omega) _⟩
  · rw [if_neg h0]
    go_enter Try.func47, Try.ntmps47
    go_upto_region 1 with (fail)
    unfold RZ rz at HD HZ HB
    generalize (w.alloc (.cells r.cells 53)).alloc _ = W at HD HZ HB ⊢
    obtain ⟨g, hg⟩ : ∃ g, g = w.heap.size := ⟨_, rfl⟩
    rw [← hg] at HD HZ ⊢
    have HG := Lib.hid (show w.heap.size ≤ g by omega)
    have c5 : W.cell? ⟨g, 5, none⟩ = some (.int .i64 r.arm) := (blk_cell HD.out 5).trans rfl
    have z5 : W.frozen? ⟨g, 5, none⟩ = false := blk_frozen HD.out 5
    clear hg
    go_upto_region 4 with (fail)
    have HW := Lib.hid (show (W.setCell ⟨g, 5, none⟩ (.int .i64 n)).heap[g]? = some (.cells ({ r with arm := n } : RD).cells 53 (0, 0)) from blk_set HD.out 5 _)
    have HF := Lib.hid (show (W.setCell ⟨g, 5, none⟩ (.int .i64 n)).heap[g + 1]? = some (.cells rz 53 (0, 0)) from blk_far HZ.out (by show g + 1 ≠ g; omega) _)
    have HBe := Lib.hid (HB.out.setCell (p := ⟨g, 5, none⟩) HG.out (.int .i64 n))
    generalize W.setCell ⟨g, 5, none⟩ (.int .i64 n) = W8 at HW HF HBe ⊢
    clear c5 z5 HD HZ HB
    go_wp2_with (first | (refine wl_load 53 (.tmp 2) rfl rfl _ _ rfl (rd_ld HW.out) ?_) | (refine wl_store (old := rz) (cells := ({ r with arm := n } : RD).cells) 53 (.tmp 4) (.tmp 11) rfl rfl rfl rfl HF.out infoRd rfl (by simp [Value.oneCell', RD.cells]) ?_))
    refine bodyPost_ret (results_ct rfl _ _ (g + 1) 53 ({ r with arm := n } : RD).cells (0, 0) _ rfl (setRow_heap _ _ _ _ _ _ HF.out) Try.underlying53 rfl infoRd) rfl ?_
    exact ⟨rfl, below_setRow HBe.out (by have := HG.out; omega) _⟩
end Go.Proofs.Ytfggcdpipolahaa.PF
