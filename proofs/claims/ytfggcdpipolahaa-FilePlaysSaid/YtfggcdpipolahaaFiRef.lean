/- The document's disk: its value, one operation that goes by. -/
import Derived.Test.YtfggcdpipolahaaFiSpa
set_option linter.unusedVariables false
set_option linter.unusedSimpArgs false
namespace Go.Proofs.Ytfggcdpipolahaa.PF
open Go.RowKit Go.Proofs.YtfggcdpipolahaaW.PrintWords Go.Proofs.YtfggcdpipolahaaW.PrintLast Go.Proofs.YtfggcdpipolahaaW.PrintMore
attribute [local go_sem] max2_int min2_int max_two min_two
/-- The document's disk, as a value. -/
structure RD where
  f : S3
  ops : Sl
  down : Bool
  arm : Int
  fail : Int
  wth : Int
def RD.cells (r : RD) : Array Value := #[.slice r.f.a.1 r.f.a.2.1 r.f.a.2.2, .slice r.f.b.1 r.f.b.2.1 r.f.b.2.2, .slice r.f.c.1 r.f.c.2.1 r.f.c.2.2, .slice r.ops.1 r.ops.2.1 r.ops.2.2, .bool r.down, .int .i64 r.arm, .int .i64 r.fail, .int .i64 r.wth]
theorem infoRd : (Try.prog.info? 53).map (·.size) = some 8 := by kernel_rfl
def less (x : Int) : Int := if 0 ≤ x then x - 1 else x
def RD.go (r : RD) : RD × Int := if r.down = true then (r, 6) else if r.arm = 0 then ({ r with arm := less r.arm, fail := less r.fail, down := true }, 6) else if r.fail = 0 then ({ r with arm := less r.arm, fail := less r.fail }, r.wth) else ({ r with arm := less r.arm, fail := less r.fail }, 0)
theorem rd_ld {w : World} {g : Nat} {r : RD} (h : w.heap[g]? = some (.cells r.cells 53 (0, 0))) : (Instr.loadAt 53 (.pointer (some ⟨g, 0, none⟩))).run Try.prog w = .ok (.agg r.cells) w := by
  have hld := run_loadVar_row (P := Try.prog) w g 53 53 r.cells (0, 0) _ h Try.underlying53 rfl infoRd
  simp only [Instr.loadAt, Instr.sureAddr, Sem.run_bind, Sem.run_pure, Result.andThen_ok, hld]
abbrev rz : Array Value := #[.slice none 0 0, .slice none 0 0, .slice none 0 0, .slice none 0 0, .bool false, .int .i64 0, .int .i64 0, .int .i64 0]
abbrev RZ : Obj := .cells rz 53
def ref_operation.T3 : Bool × List (List Nat × List Nat) := (true, [([], []), ([0], [0]), ([1], [1]), ([], []), ([3], [3]), ([4], [4]), ([2, 0, 1, 2], [2]), ([5, 6, 0, 1, 2, 3, 4, 5, 6], [5])])
def ref_operation.B3 : List Nat := [0, 1, 3, 0, 8, 24, 7, 127]
theorem ref_operation.tab3 : rtab .any (opsOf Try.f57 3) = ref_operation.T3 := by kernel_rfl
theorem ref_operation.bits3 : waitsOk ref_operation.T3.2 ref_operation.B3 = true := by kernel_rfl
def ref_operation.T12 : Bool × List (List Nat × List Nat) := (true, [([], []), ([], []), ([1], [1]), ([0, 0], [0]), ([2, 3, 0, 1, 2, 3], [2])])
def ref_operation.B12 : List Nat := [0, 0, 2, 1, 15]
theorem ref_operation.tab12 : rtab .any (opsOf Try.f57 12) = ref_operation.T12 := by kernel_rfl
theorem ref_operation.bits12 : waitsOk ref_operation.T12.2 ref_operation.B12 = true := by kernel_rfl
set_option maxRecDepth 100000 in
set_option maxHeartbeats 4000000 in
theorem go_case00 (r : RD) (hd : r.down = false) (hA : r.arm < 0) (hF : r.fail < 0) (hb : -1 ≤ r.arm ∧ r.arm ≤ 9223372036854775807 ∧ -1 ≤ r.fail ∧ r.fail ≤ 9223372036854775807) (w : World) : Calls Try.prog 57 #[.agg r.cells] w fun e w' => e = .returned (.tuple #[.agg ({ r with arm := r.arm, fail := r.fail } : RD).cells, .int .i64 0]) ∧ Below w.heap.size w w' := by
  have ea : (r.arm == 0) = false := by simp; omega
  have ef : (r.fail == 0) = false := by simp; omega
  have pa : ¬ 0 ≤ r.arm := by omega
  have pf : ¬ 0 ≤ r.fail := by omega
  have va : IntKind.i64.wrap (r.arm - 1) = r.arm - 1 := by rw [IntKind.wrap_i64]; omega
  have vf : IntKind.i64.wrap (r.fail - 1) = r.fail - 1 := by rw [IntKind.wrap_i64]; omega
  clear hA hF hb
  go_enter Try.func57, Try.ntmps57
  go_upto_region 1 with (fail)
  have HD := Lib.hid (blk_alloc (blk_new w (.cells r.cells 53)) RZ)
  have HZ := Lib.hid (show ((w.alloc (.cells r.cells 53)).alloc RZ).heap[w.heap.size + 1]? = some (.cells rz 53 (0, 0)) by rw [← World.size_alloc w (.cells r.cells 53)]; exact blk_new _ _)
  have HB := Lib.hid (below_alloc (below_alloc (Below.refl w.heap.size w) (.cells r.cells 53)) RZ)
  unfold RZ rz at HD HZ HB
  generalize (w.alloc (.cells r.cells 53)).alloc _ = W at HD HZ HB ⊢
  obtain ⟨g, hg⟩ : ∃ g, g = w.heap.size := ⟨_, rfl⟩
  rw [← hg] at HD HZ ⊢
  have HG := Lib.hid (show w.heap.size ≤ g by omega)
  have HNe := Lib.hid (show g + 1 ≠ g by omega)
  have c4 : W.cell? ⟨g, 4, none⟩ = some (.bool false) := by rw [blk_cell HD.out 4, ← hd]; rfl
  have c5 : W.cell? ⟨g, 5, none⟩ = some (.int .i64 r.arm) := (blk_cell HD.out 5).trans rfl
  have c6 : W.cell? ⟨g, 6, none⟩ = some (.int .i64 r.fail) := (blk_cell HD.out 6).trans rfl
  have z4 : W.frozen? ⟨g, 4, none⟩ = false := blk_frozen HD.out 4
  have z5 : W.frozen? ⟨g, 5, none⟩ = false := blk_frozen HD.out 5
  have z6 : W.frozen? ⟨g, 6, none⟩ = false := blk_frozen HD.out 6
  have HX := Lib.hid (show W.drew.cell? ⟨g, 5, none⟩ = some (.int .i64 r.arm) ∧ W.drew.cell? ⟨g, 6, none⟩ = some (.int .i64 r.fail) from ⟨c5, c6⟩)
  clear hd hg
  go_upto_region 3 with (fail)
  refine start_ (n := 8) (S := fun w' => w'.cell? ⟨g, 5, none⟩ = some (.int .i64 r.arm) ∧ w'.cell? ⟨g, 6, none⟩ = some (.int .i64 r.fail)) (ds := []) #[false, false, false, false, false, false, false, false] (by kernel_rfl) rfl rfl ⟨HX.out.1, HX.out.2⟩ (fun hHeld => ?_)
  refine with_tabW ref_operation.tab3 ref_operation.bits3 (fun HT_ HW_ => ?_)
  refine pure_ (i := 0) (N := some 9) (v := ?_) (a' := ?_) #[true, false, false, false, false, false, false, false] rfl rfl (any_of HT_.out (by kernel_rfl)) (fun _ _ _ h => h) (Or.inl ⟨by rfl, ?_⟩) ?_ ?_
  rotate_left
  · intro w'
    go_simp
    with_reducible rfl
  rotate_left
  · simp only [Act.put, List.setIfInBounds_toArray, List.set_cons_zero, List.set_cons_succ, i64_w, i32_w]
    rfl
  refine pure_ (i := 3) (N := some 12) (v := ?_) (a' := ?_) #[true, false, false, true, false, false, false, false] rfl rfl (any_of HT_.out (by kernel_rfl)) (fun _ _ _ h => h) (Or.inl ⟨by rfl, ?_⟩) ?_ ?_
  rotate_left
  · intro w'
    go_simp
    with_reducible rfl
  rotate_left
  · simp only [Act.put, List.setIfInBounds_toArray, List.set_cons_zero, List.set_cons_succ, i64_w, i32_w]
    rfl
  refine take_ (i := 1) (N := some 10) (v := ?_) (a' := ?_) #[true, true, false, true, false, false, false, false] rfl rfl (take_ofW HT_.out HW_.out (by kernel_rfl)) (fun _ _ _ h => h) (Or.inl ⟨by rfl, ?_⟩) hHeld ?_ ?_
  rotate_left
  · rintro w' ⟨s0, s1⟩
    go_simp
    with_reducible rfl
  rotate_left
  · simp only [Act.put, List.setIfInBounds_toArray, List.set_cons_zero, List.set_cons_succ, i64_w, i32_w]
    rfl
  refine pure_ (i := 2) (N := some 11) (v := ?_) (a' := ?_) #[true, true, true, true, false, false, false, false] rfl rfl (any_of HT_.out (by kernel_rfl)) (fun _ _ _ h => h) (Or.inl ⟨by rfl, ?_⟩) ?_ ?_
  rotate_left
  · intro w'
    go_simp
    with_reducible rfl
  rotate_left
  · simp only [Act.put, List.setIfInBounds_toArray, List.set_cons_zero, List.set_cons_succ, i64_w, i32_w]
    rfl
  refine pure_ (i := 6) (N := some 4) (v := ?_) (a' := ?_) #[true, true, true, true, false, false, true, false] rfl rfl (any_of HT_.out (by kernel_rfl)) (fun _ _ _ h => h) (Or.inl ⟨by rfl, ?_⟩) ?_ ?_
  rotate_left
  · intro w'
    go_simp
    with_reducible rfl
  rotate_left
  · simp only [Act.put, List.setIfInBounds_toArray, List.set_cons_zero, List.set_cons_succ, i64_w, i32_w]
    rfl
  refine take_ (i := 4) (N := some 13) (v := ?_) (a' := ?_) #[true, true, true, true, true, false, true, false] rfl rfl (take_ofW HT_.out HW_.out (by kernel_rfl)) (fun _ _ _ h => h) (Or.inl ⟨by rfl, ?_⟩) hHeld ?_ ?_
  rotate_left
  · rintro w' ⟨s0, s1⟩
    go_simp
    with_reducible rfl
  rotate_left
  · simp only [Act.put, List.setIfInBounds_toArray, List.set_cons_zero, List.set_cons_succ, i64_w, i32_w]
    rfl
  refine pure_ (i := 5) (N := some 14) (v := ?_) (a' := ?_) #[true, true, true, true, true, true, true, false] rfl rfl (any_of HT_.out (by kernel_rfl)) (fun _ _ _ h => h) (Or.inl ⟨by rfl, ?_⟩) ?_ ?_
  rotate_left
  · intro w'
    go_simp
    with_reducible rfl
  rotate_left
  · simp only [Act.put, List.setIfInBounds_toArray, List.set_cons_zero, List.set_cons_succ, i64_w, i32_w]
    rfl
  refine pure_ (i := 7) (N := some 5) (v := ?_) (a' := ?_) #[true, true, true, true, true, true, true, true] rfl rfl (any_of HT_.out (by kernel_rfl)) (fun _ _ _ h => h) (Or.inl ⟨by rfl, ?_⟩) ?_ ?_
  rotate_left
  · intro w'
    go_simp
    with_reducible rfl
  rotate_left
  · simp only [Act.put, List.setIfInBounds_toArray, List.set_cons_zero, List.set_cons_succ, i64_w, i32_w]
    rfl
  refine done_ (done_of HT_.out (by kernel_rfl)) ?_
  
  go_upto_region 13 with (fail)
  have HW := Lib.hid (show (W.drew).heap[g]? = some (.cells ({ r with arm := r.arm, fail := r.fail } : RD).cells 53 (0, 0)) from blk_drew HD.out)
  have HF := Lib.hid (show (W.drew).heap[g + 1]? = some (.cells rz 53 (0, 0)) from blk_drew HZ.out)
  have HBe := Lib.hid (show Below w.heap.size w (W.drew) from HB.out.drew)
  generalize W.drew = W8 at HW HF HBe ⊢
  clear c4 c5 c6 z4 z5 z6 HX HD HZ HB
  go_wp2_with (first | (refine wl_load 53 (.tmp 1) rfl rfl _ _ rfl (rd_ld HW.out) ?_) | (refine wl_store (old := rz) (cells := ({ r with arm := r.arm, fail := r.fail } : RD).cells) 53 (.tmp 2) (.tmp 36) rfl rfl rfl rfl HF.out infoRd rfl (by simp [Value.oneCell', RD.cells]) ?_))
  refine bodyPost_ret (results_ct rfl _ _ (g + 1) 53 ({ r with arm := r.arm, fail := r.fail } : RD).cells (0, 0) _ rfl (setRow_heap _ _ _ _ _ _ HF.out) Try.underlying53 rfl infoRd) rfl ?_
  exact ⟨rfl, below_setRow HBe.out (by have := HG.out; omega) _⟩

set_option maxRecDepth 100000 in
set_option maxHeartbeats 4000000 in
theorem go_case01 (r : RD) (hd : r.down = false) (hA : r.arm < 0) (hF : r.fail = 0) (hb : -1 ≤ r.arm ∧ r.arm ≤ 9223372036854775807 ∧ -1 ≤ r.fail ∧ r.fail ≤ 9223372036854775807) (w : World) : Calls Try.prog 57 #[.agg r.cells] w fun e w' => e = .returned (.tuple #[.agg ({ r with arm := r.arm, fail := r.fail - 1 } : RD).cells, .int .i64 r.wth]) ∧ Below w.heap.size w w' := by
  have ea : (r.arm == 0) = false := by simp; omega
  have ef : (r.fail == 0) = true := by simp; omega
  have pa : ¬ 0 ≤ r.arm := by omega
  have pf : 0 ≤ r.fail := by omega
  have va : IntKind.i64.wrap (r.arm - 1) = r.arm - 1 := by rw [IntKind.wrap_i64]; omega
  have vf : IntKind.i64.wrap (r.fail - 1) = r.fail - 1 := by rw [IntKind.wrap_i64]; omega
  clear hA hF hb
  go_enter Try.func57, Try.ntmps57
  go_upto_region 1 with (fail)
  have HD := Lib.hid (blk_alloc (blk_new w (.cells r.cells 53)) RZ)
  have HZ := Lib.hid (show ((w.alloc (.cells r.cells 53)).alloc RZ).heap[w.heap.size + 1]? = some (.cells rz 53 (0, 0)) by rw [← World.size_alloc w (.cells r.cells 53)]; exact blk_new _ _)
  have HB := Lib.hid (below_alloc (below_alloc (Below.refl w.heap.size w) (.cells r.cells 53)) RZ)
  unfold RZ rz at HD HZ HB
  generalize (w.alloc (.cells r.cells 53)).alloc _ = W at HD HZ HB ⊢
  obtain ⟨g, hg⟩ : ∃ g, g = w.heap.size := ⟨_, rfl⟩
  rw [← hg] at HD HZ ⊢
  have HG := Lib.hid (show w.heap.size ≤ g by omega)
  have HNe := Lib.hid (show g + 1 ≠ g by omega)
  have c4 : W.cell? ⟨g, 4, none⟩ = some (.bool false) := by rw [blk_cell HD.out 4, ← hd]; rfl
  have c5 : W.cell? ⟨g, 5, none⟩ = some (.int .i64 r.arm) := (blk_cell HD.out 5).trans rfl
  have c6 : W.cell? ⟨g, 6, none⟩ = some (.int .i64 r.fail) := (blk_cell HD.out 6).trans rfl
  have z4 : W.frozen? ⟨g, 4, none⟩ = false := blk_frozen HD.out 4
  have z5 : W.frozen? ⟨g, 5, none⟩ = false := blk_frozen HD.out 5
  have z6 : W.frozen? ⟨g, 6, none⟩ = false := blk_frozen HD.out 6
  have HX := Lib.hid (show W.drew.cell? ⟨g, 5, none⟩ = some (.int .i64 r.arm) ∧ W.drew.cell? ⟨g, 6, none⟩ = some (.int .i64 r.fail) from ⟨c5, c6⟩)
  clear hd hg
  go_upto_region 3 with (fail)
  refine start_ (n := 8) (S := fun w' => w'.cell? ⟨g, 5, none⟩ = some (.int .i64 r.arm) ∧ w'.cell? ⟨g, 6, none⟩ = some (.int .i64 r.fail)) (ds := []) #[false, false, false, false, false, false, false, false] (by kernel_rfl) rfl rfl ⟨HX.out.1, HX.out.2⟩ (fun hHeld => ?_)
  refine with_tabW ref_operation.tab3 ref_operation.bits3 (fun HT_ HW_ => ?_)
  refine pure_ (i := 0) (N := some 9) (v := ?_) (a' := ?_) #[true, false, false, false, false, false, false, false] rfl rfl (any_of HT_.out (by kernel_rfl)) (fun _ _ _ h => h) (Or.inl ⟨by rfl, ?_⟩) ?_ ?_
  rotate_left
  · intro w'
    go_simp
    with_reducible rfl
  rotate_left
  · simp only [Act.put, List.setIfInBounds_toArray, List.set_cons_zero, List.set_cons_succ, i64_w, i32_w]
    rfl
  refine pure_ (i := 3) (N := some 12) (v := ?_) (a' := ?_) #[true, false, false, true, false, false, false, false] rfl rfl (any_of HT_.out (by kernel_rfl)) (fun _ _ _ h => h) (Or.inl ⟨by rfl, ?_⟩) ?_ ?_
  rotate_left
  · intro w'
    go_simp
    with_reducible rfl
  rotate_left
  · simp only [Act.put, List.setIfInBounds_toArray, List.set_cons_zero, List.set_cons_succ, i64_w, i32_w]
    rfl
  refine take_ (i := 1) (N := some 10) (v := ?_) (a' := ?_) #[true, true, false, true, false, false, false, false] rfl rfl (take_ofW HT_.out HW_.out (by kernel_rfl)) (fun _ _ _ h => h) (Or.inl ⟨by rfl, ?_⟩) hHeld ?_ ?_
  rotate_left
  · rintro w' ⟨s0, s1⟩
    go_simp
    with_reducible rfl
  rotate_left
  · simp only [Act.put, List.setIfInBounds_toArray, List.set_cons_zero, List.set_cons_succ, i64_w, i32_w]
    rfl
  refine pure_ (i := 2) (N := some 11) (v := ?_) (a' := ?_) #[true, true, true, true, false, false, false, false] rfl rfl (any_of HT_.out (by kernel_rfl)) (fun _ _ _ h => h) (Or.inl ⟨by rfl, ?_⟩) ?_ ?_
  rotate_left
  · intro w'
    go_simp
    with_reducible rfl
  rotate_left
  · simp only [Act.put, List.setIfInBounds_toArray, List.set_cons_zero, List.set_cons_succ, i64_w, i32_w]
    rfl
  refine pure_ (i := 6) (N := some 4) (v := ?_) (a' := ?_) #[true, true, true, true, false, false, true, false] rfl rfl (any_of HT_.out (by kernel_rfl)) (fun _ _ _ h => h) (Or.inl ⟨by rfl, ?_⟩) ?_ ?_
  rotate_left
  · intro w'
    go_simp
    with_reducible rfl
  rotate_left
  · simp only [Act.put, List.setIfInBounds_toArray, List.set_cons_zero, List.set_cons_succ, i64_w, i32_w]
    rfl
  refine take_ (i := 4) (N := some 13) (v := ?_) (a' := ?_) #[true, true, true, true, true, false, true, false] rfl rfl (take_ofW HT_.out HW_.out (by kernel_rfl)) (fun _ _ _ h => h) (Or.inl ⟨by rfl, ?_⟩) hHeld ?_ ?_
  rotate_left
  · rintro w' ⟨s0, s1⟩
    go_simp
    with_reducible rfl
  rotate_left
  · simp only [Act.put, List.setIfInBounds_toArray, List.set_cons_zero, List.set_cons_succ, i64_w, i32_w]
    rfl
  refine pure_ (i := 5) (N := some 14) (v := ?_) (a' := ?_) #[true, true, true, true, true, true, true, false] rfl rfl (any_of HT_.out (by kernel_rfl)) (fun _ _ _ h => h) (Or.inl ⟨by rfl, ?_⟩) ?_ ?_
  rotate_left
  · intro w'
    go_simp
    with_reducible rfl
  rotate_left
  · simp only [Act.put, List.setIfInBounds_toArray, List.set_cons_zero, List.set_cons_succ, i64_w, i32_w]
    rfl
  refine pure_ (i := 7) (N := some 5) (v := ?_) (a' := ?_) #[true, true, true, true, true, true, true, true] rfl rfl (any_of HT_.out (by kernel_rfl)) (fun _ _ _ h => h) (Or.inl ⟨by rfl, ?_⟩) ?_ ?_
  rotate_left
  · intro w'
    go_simp
    with_reducible rfl
  rotate_left
  · simp only [Act.put, List.setIfInBounds_toArray, List.set_cons_zero, List.set_cons_succ, i64_w, i32_w]
    rfl
  refine done_ (done_of HT_.out (by kernel_rfl)) ?_
  
  go_upto_region 12 with (fail)
  have HW := Lib.hid (show ((W.setCell ⟨g, 6, none⟩ (.int .i64 (r.fail - 1))).drew).heap[g]? = some (.cells ({ r with arm := r.arm, fail := r.fail - 1 } : RD).cells 53 (0, 0)) from blk_drew (blk_set HD.out 6 (.int .i64 (r.fail - 1))))
  have HF := Lib.hid (show ((W.setCell ⟨g, 6, none⟩ (.int .i64 (r.fail - 1))).drew).heap[g + 1]? = some (.cells rz 53 (0, 0)) from blk_drew (blk_far HZ.out HNe.out (.int .i64 (r.fail - 1))))
  have HBe := Lib.hid (show Below w.heap.size w ((W.setCell ⟨g, 6, none⟩ (.int .i64 (r.fail - 1))).drew) from (HB.out.setCell (p := ⟨g, 6, none⟩) HG.out (.int .i64 (r.fail - 1))).drew)
  generalize (W.setCell ⟨g, 6, none⟩ (.int .i64 (r.fail - 1))).drew = W8 at HW HF HBe ⊢
  clear c4 c5 c6 z4 z5 z6 HX HD HZ HB
  have c7 := Lib.hid (show W8.drew.cell? ⟨g, 7, none⟩ = some (.int .i64 r.wth) from (blk_cell (blk_drew HW.out) 7).trans rfl)
  have HLd := Lib.hid (rd_ld (blk_drew HW.out))
  have HS2 := Lib.hid (show (World.setRow W8.drew (g + 1) ({ r with arm := r.arm, fail := r.fail - 1 } : RD).cells).heap[g]? = some (.cells ({ r with arm := r.arm, fail := r.fail - 1 } : RD).cells 53 (0, 0)) from (setRow_other _ _ _ _ (fun e => HNe.out e.symm)).trans (blk_drew HW.out))
  refine start_ (n := 5) (S := fun w' => (Instr.loadAt 53 (.pointer (some ⟨g, 0, none⟩))).run Try.prog w' = .ok (.agg ({ r with arm := r.arm, fail := r.fail - 1 } : RD).cells) w' ∧ w'.cell? ⟨g, 7, none⟩ = some (.int .i64 r.wth)) (ds := []) #[false, false, false, false, false] (by kernel_rfl) rfl rfl ⟨HLd.out, c7.out⟩ (fun hHeld => ?_)
  refine with_tabW ref_operation.tab12 ref_operation.bits12 (fun HT_ HW_ => ?_)
  refine pure_ (i := 1) (N := some 34) (v := ?_) (a' := ?_) #[false, true, false, false, false] rfl rfl (any_of HT_.out (by kernel_rfl)) (fun _ _ _ h => h) (Or.inl ⟨by rfl, ?_⟩) ?_ ?_
  rotate_left
  · intro w'
    go_simp
    with_reducible rfl
  rotate_left
  · simp only [Act.put, List.setIfInBounds_toArray, List.set_cons_zero, List.set_cons_succ, i64_w, i32_w]
    rfl
  refine take_ (i := 0) (N := some 33) (v := ?_) (a' := ?_) #[true, true, false, false, false] rfl rfl (take_ofW HT_.out HW_.out (by kernel_rfl)) (fun _ _ _ h => h) (Or.inl ⟨by rfl, ?_⟩) hHeld ?_ ?_
  rotate_left
  · rintro w' ⟨s0, s1⟩
    clear s1
    refine Eq.trans (exec_load (by rfl) (by rfl) s0) ?_
    with_reducible rfl
  rotate_left
  · simp only [Act.put, List.setIfInBounds_toArray, List.set_cons_zero, List.set_cons_succ, i64_w, i32_w]
    rfl
  refine take_ (i := 2) (N := some 35) (v := ?_) (a' := ?_) #[true, true, true, false, false] rfl rfl (take_ofW HT_.out HW_.out (by kernel_rfl)) (fun _ _ _ h => h) (Or.inl ⟨by rfl, ?_⟩) hHeld ?_ ?_
  rotate_left
  · rintro w' ⟨s0, s1⟩
    clear s0
    go_simp
    with_reducible rfl
  rotate_left
  · simp only [Act.put, List.setIfInBounds_toArray, List.set_cons_zero, List.set_cons_succ, i64_w, i32_w]
    rfl
  refine one_ (i := 3) (N := none) #[true, true, true, true, false] rfl rfl (one_of HT_.out (by kernel_rfl)) (by decide) (fun K hK => ?_)
  refine skip_ (w1 := ?_) (by rfl) rfl ?_ ?_
  rotate_left
  · refine exec_store (t := 53) (p := .tmp 2) (v := .tmp 33) (g := g + 1) (old := rz) (cells := ({ r with arm := r.arm, fail := r.fail - 1 } : RD).cells) ?_ ?_ ?_ (blk_drew HF.out) infoRd rfl (by simp [Value.oneCell', RD.cells])
    all_goals rfl
  refine hK.out _ _ ⟨rd_ld HS2.out, (blk_cell HS2.out 7).trans rfl⟩ (fun hHeld => ?_)
  clear hK K
  refine pure_ (i := 4) (N := some 3) (v := ?_) (a' := ?_) #[true, true, true, true, true] rfl rfl (any_of HT_.out (by kernel_rfl)) (fun _ _ _ h => h) (Or.inl ⟨by rfl, ?_⟩) ?_ ?_
  rotate_left
  · intro w'
    go_simp
    with_reducible rfl
  rotate_left
  · simp only [Act.put, List.setIfInBounds_toArray, List.set_cons_zero, List.set_cons_succ, i64_w, i32_w]
    rfl
  refine done_ (done_of HT_.out (by kernel_rfl)) ?_
  
  go_wp2
  refine bodyPost_ret (results_ct rfl _ _ (g + 1) 53 ({ r with arm := r.arm, fail := r.fail - 1 } : RD).cells (0, 0) _ rfl (setRow_heap _ _ _ _ _ _ (blk_drew HF.out)) Try.underlying53 rfl infoRd) rfl ?_
  exact ⟨rfl, below_setRow HBe.out.drew (by have := HG.out; omega) _⟩

set_option maxRecDepth 100000 in
set_option maxHeartbeats 4000000 in
theorem go_case02 (r : RD) (hd : r.down = false) (hA : r.arm < 0) (hF : 0 < r.fail) (hb : -1 ≤ r.arm ∧ r.arm ≤ 9223372036854775807 ∧ -1 ≤ r.fail ∧ r.fail ≤ 9223372036854775807) (w : World) : Calls Try.prog 57 #[.agg r.cells] w fun e w' => e = .returned (.tuple #[.agg ({ r with arm := r.arm, fail := r.fail - 1 } : RD).cells, .int .i64 0]) ∧ Below w.heap.size w w' := by
  have ea : (r.arm == 0) = false := by simp; omega
  have ef : (r.fail == 0) = false := by simp; omega
  have pa : ¬ 0 ≤ r.arm := by omega
  have pf : 0 ≤ r.fail := by omega
  have va : IntKind.i64.wrap (r.arm - 1) = r.arm - 1 := by rw [IntKind.wrap_i64]; omega
  have vf : IntKind.i64.wrap (r.fail - 1) = r.fail - 1 := by rw [IntKind.wrap_i64]; omega
  clear hA hF hb
  go_enter Try.func57, Try.ntmps57
  go_upto_region 1 with (fail)
  have HD := Lib.hid (blk_alloc (blk_new w (.cells r.cells 53)) RZ)
  have HZ := Lib.hid (show ((w.alloc (.cells r.cells 53)).alloc RZ).heap[w.heap.size + 1]? = some (.cells rz 53 (0, 0)) by rw [← World.size_alloc w (.cells r.cells 53)]; exact blk_new _ _)
  have HB := Lib.hid (below_alloc (below_alloc (Below.refl w.heap.size w) (.cells r.cells 53)) RZ)
  unfold RZ rz at HD HZ HB
  generalize (w.alloc (.cells r.cells 53)).alloc _ = W at HD HZ HB ⊢
  obtain ⟨g, hg⟩ : ∃ g, g = w.heap.size := ⟨_, rfl⟩
  rw [← hg] at HD HZ ⊢
  have HG := Lib.hid (show w.heap.size ≤ g by omega)
  have HNe := Lib.hid (show g + 1 ≠ g by omega)
  have c4 : W.cell? ⟨g, 4, none⟩ = some (.bool false) := by rw [blk_cell HD.out 4, ← hd]; rfl
  have c5 : W.cell? ⟨g, 5, none⟩ = some (.int .i64 r.arm) := (blk_cell HD.out 5).trans rfl
  have c6 : W.cell? ⟨g, 6, none⟩ = some (.int .i64 r.fail) := (blk_cell HD.out 6).trans rfl
  have z4 : W.frozen? ⟨g, 4, none⟩ = false := blk_frozen HD.out 4
  have z5 : W.frozen? ⟨g, 5, none⟩ = false := blk_frozen HD.out 5
  have z6 : W.frozen? ⟨g, 6, none⟩ = false := blk_frozen HD.out 6
  have HX := Lib.hid (show W.drew.cell? ⟨g, 5, none⟩ = some (.int .i64 r.arm) ∧ W.drew.cell? ⟨g, 6, none⟩ = some (.int .i64 r.fail) from ⟨c5, c6⟩)
  clear hd hg
  go_upto_region 3 with (fail)
  refine start_ (n := 8) (S := fun w' => w'.cell? ⟨g, 5, none⟩ = some (.int .i64 r.arm) ∧ w'.cell? ⟨g, 6, none⟩ = some (.int .i64 r.fail)) (ds := []) #[false, false, false, false, false, false, false, false] (by kernel_rfl) rfl rfl ⟨HX.out.1, HX.out.2⟩ (fun hHeld => ?_)
  refine with_tabW ref_operation.tab3 ref_operation.bits3 (fun HT_ HW_ => ?_)
  refine pure_ (i := 0) (N := some 9) (v := ?_) (a' := ?_) #[true, false, false, false, false, false, false, false] rfl rfl (any_of HT_.out (by kernel_rfl)) (fun _ _ _ h => h) (Or.inl ⟨by rfl, ?_⟩) ?_ ?_
  rotate_left
  · intro w'
    go_simp
    with_reducible rfl
  rotate_left
  · simp only [Act.put, List.setIfInBounds_toArray, List.set_cons_zero, List.set_cons_succ, i64_w, i32_w]
    rfl
  refine pure_ (i := 3) (N := some 12) (v := ?_) (a' := ?_) #[true, false, false, true, false, false, false, false] rfl rfl (any_of HT_.out (by kernel_rfl)) (fun _ _ _ h => h) (Or.inl ⟨by rfl, ?_⟩) ?_ ?_
  rotate_left
  · intro w'
    go_simp
    with_reducible rfl
  rotate_left
  · simp only [Act.put, List.setIfInBounds_toArray, List.set_cons_zero, List.set_cons_succ, i64_w, i32_w]
    rfl
  refine take_ (i := 1) (N := some 10) (v := ?_) (a' := ?_) #[true, true, false, true, false, false, false, false] rfl rfl (take_ofW HT_.out HW_.out (by kernel_rfl)) (fun _ _ _ h => h) (Or.inl ⟨by rfl, ?_⟩) hHeld ?_ ?_
  rotate_left
  · rintro w' ⟨s0, s1⟩
    go_simp
    with_reducible rfl
  rotate_left
  · simp only [Act.put, List.setIfInBounds_toArray, List.set_cons_zero, List.set_cons_succ, i64_w, i32_w]
    rfl
  refine pure_ (i := 2) (N := some 11) (v := ?_) (a' := ?_) #[true, true, true, true, false, false, false, false] rfl rfl (any_of HT_.out (by kernel_rfl)) (fun _ _ _ h => h) (Or.inl ⟨by rfl, ?_⟩) ?_ ?_
  rotate_left
  · intro w'
    go_simp
    with_reducible rfl
  rotate_left
  · simp only [Act.put, List.setIfInBounds_toArray, List.set_cons_zero, List.set_cons_succ, i64_w, i32_w]
    rfl
  refine pure_ (i := 6) (N := some 4) (v := ?_) (a' := ?_) #[true, true, true, true, false, false, true, false] rfl rfl (any_of HT_.out (by kernel_rfl)) (fun _ _ _ h => h) (Or.inl ⟨by rfl, ?_⟩) ?_ ?_
  rotate_left
  · intro w'
    go_simp
    with_reducible rfl
  rotate_left
  · simp only [Act.put, List.setIfInBounds_toArray, List.set_cons_zero, List.set_cons_succ, i64_w, i32_w]
    rfl
  refine take_ (i := 4) (N := some 13) (v := ?_) (a' := ?_) #[true, true, true, true, true, false, true, false] rfl rfl (take_ofW HT_.out HW_.out (by kernel_rfl)) (fun _ _ _ h => h) (Or.inl ⟨by rfl, ?_⟩) hHeld ?_ ?_
  rotate_left
  · rintro w' ⟨s0, s1⟩
    go_simp
    with_reducible rfl
  rotate_left
  · simp only [Act.put, List.setIfInBounds_toArray, List.set_cons_zero, List.set_cons_succ, i64_w, i32_w]
    rfl
  refine pure_ (i := 5) (N := some 14) (v := ?_) (a' := ?_) #[true, true, true, true, true, true, true, false] rfl rfl (any_of HT_.out (by kernel_rfl)) (fun _ _ _ h => h) (Or.inl ⟨by rfl, ?_⟩) ?_ ?_
  rotate_left
  · intro w'
    go_simp
    with_reducible rfl
  rotate_left
  · simp only [Act.put, List.setIfInBounds_toArray, List.set_cons_zero, List.set_cons_succ, i64_w, i32_w]
    rfl
  refine pure_ (i := 7) (N := some 5) (v := ?_) (a' := ?_) #[true, true, true, true, true, true, true, true] rfl rfl (any_of HT_.out (by kernel_rfl)) (fun _ _ _ h => h) (Or.inl ⟨by rfl, ?_⟩) ?_ ?_
  rotate_left
  · intro w'
    go_simp
    with_reducible rfl
  rotate_left
  · simp only [Act.put, List.setIfInBounds_toArray, List.set_cons_zero, List.set_cons_succ, i64_w, i32_w]
    rfl
  refine done_ (done_of HT_.out (by kernel_rfl)) ?_
  
  go_upto_region 13 with (fail)
  have HW := Lib.hid (show ((W.setCell ⟨g, 6, none⟩ (.int .i64 (r.fail - 1))).drew).heap[g]? = some (.cells ({ r with arm := r.arm, fail := r.fail - 1 } : RD).cells 53 (0, 0)) from blk_drew (blk_set HD.out 6 (.int .i64 (r.fail - 1))))
  have HF := Lib.hid (show ((W.setCell ⟨g, 6, none⟩ (.int .i64 (r.fail - 1))).drew).heap[g + 1]? = some (.cells rz 53 (0, 0)) from blk_drew (blk_far HZ.out HNe.out (.int .i64 (r.fail - 1))))
  have HBe := Lib.hid (show Below w.heap.size w ((W.setCell ⟨g, 6, none⟩ (.int .i64 (r.fail - 1))).drew) from (HB.out.setCell (p := ⟨g, 6, none⟩) HG.out (.int .i64 (r.fail - 1))).drew)
  generalize (W.setCell ⟨g, 6, none⟩ (.int .i64 (r.fail - 1))).drew = W8 at HW HF HBe ⊢
  clear c4 c5 c6 z4 z5 z6 HX HD HZ HB
  go_wp2_with (first | (refine wl_load 53 (.tmp 1) rfl rfl _ _ rfl (rd_ld HW.out) ?_) | (refine wl_store (old := rz) (cells := ({ r with arm := r.arm, fail := r.fail - 1 } : RD).cells) 53 (.tmp 2) (.tmp 36) rfl rfl rfl rfl HF.out infoRd rfl (by simp [Value.oneCell', RD.cells]) ?_))
  refine bodyPost_ret (results_ct rfl _ _ (g + 1) 53 ({ r with arm := r.arm, fail := r.fail - 1 } : RD).cells (0, 0) _ rfl (setRow_heap _ _ _ _ _ _ HF.out) Try.underlying53 rfl infoRd) rfl ?_
  exact ⟨rfl, below_setRow HBe.out (by have := HG.out; omega) _⟩

set_option maxRecDepth 100000 in
set_option maxHeartbeats 4000000 in
theorem go_case10 (r : RD) (hd : r.down = false) (hA : r.arm = 0) (hF : r.fail < 0) (hb : -1 ≤ r.arm ∧ r.arm ≤ 9223372036854775807 ∧ -1 ≤ r.fail ∧ r.fail ≤ 9223372036854775807) (w : World) : Calls Try.prog 57 #[.agg r.cells] w fun e w' => e = .returned (.tuple #[.agg ({ r with arm := r.arm - 1, fail := r.fail, down := true } : RD).cells, .int .i64 6]) ∧ Below w.heap.size w w' := by
  have ea : (r.arm == 0) = true := by simp; omega
  have ef : (r.fail == 0) = false := by simp; omega
  have pa : 0 ≤ r.arm := by omega
  have pf : ¬ 0 ≤ r.fail := by omega
  have va : IntKind.i64.wrap (r.arm - 1) = r.arm - 1 := by rw [IntKind.wrap_i64]; omega
  have vf : IntKind.i64.wrap (r.fail - 1) = r.fail - 1 := by rw [IntKind.wrap_i64]; omega
  clear hA hF hb
  go_enter Try.func57, Try.ntmps57
  go_upto_region 1 with (fail)
  have HD := Lib.hid (blk_alloc (blk_new w (.cells r.cells 53)) RZ)
  have HZ := Lib.hid (show ((w.alloc (.cells r.cells 53)).alloc RZ).heap[w.heap.size + 1]? = some (.cells rz 53 (0, 0)) by rw [← World.size_alloc w (.cells r.cells 53)]; exact blk_new _ _)
  have HB := Lib.hid (below_alloc (below_alloc (Below.refl w.heap.size w) (.cells r.cells 53)) RZ)
  unfold RZ rz at HD HZ HB
  generalize (w.alloc (.cells r.cells 53)).alloc _ = W at HD HZ HB ⊢
  obtain ⟨g, hg⟩ : ∃ g, g = w.heap.size := ⟨_, rfl⟩
  rw [← hg] at HD HZ ⊢
  have HG := Lib.hid (show w.heap.size ≤ g by omega)
  have HNe := Lib.hid (show g + 1 ≠ g by omega)
  have c4 : W.cell? ⟨g, 4, none⟩ = some (.bool false) := by rw [blk_cell HD.out 4, ← hd]; rfl
  have c5 : W.cell? ⟨g, 5, none⟩ = some (.int .i64 r.arm) := (blk_cell HD.out 5).trans rfl
  have c6 : W.cell? ⟨g, 6, none⟩ = some (.int .i64 r.fail) := (blk_cell HD.out 6).trans rfl
  have z4 : W.frozen? ⟨g, 4, none⟩ = false := blk_frozen HD.out 4
  have z5 : W.frozen? ⟨g, 5, none⟩ = false := blk_frozen HD.out 5
  have z6 : W.frozen? ⟨g, 6, none⟩ = false := blk_frozen HD.out 6
  have HX := Lib.hid (show W.drew.cell? ⟨g, 5, none⟩ = some (.int .i64 r.arm) ∧ W.drew.cell? ⟨g, 6, none⟩ = some (.int .i64 r.fail) from ⟨c5, c6⟩)
  clear hd hg
  go_upto_region 3 with (fail)
  refine start_ (n := 8) (S := fun w' => w'.cell? ⟨g, 5, none⟩ = some (.int .i64 r.arm) ∧ w'.cell? ⟨g, 6, none⟩ = some (.int .i64 r.fail)) (ds := []) #[false, false, false, false, false, false, false, false] (by kernel_rfl) rfl rfl ⟨HX.out.1, HX.out.2⟩ (fun hHeld => ?_)
  refine with_tabW ref_operation.tab3 ref_operation.bits3 (fun HT_ HW_ => ?_)
  refine pure_ (i := 0) (N := some 9) (v := ?_) (a' := ?_) #[true, false, false, false, false, false, false, false] rfl rfl (any_of HT_.out (by kernel_rfl)) (fun _ _ _ h => h) (Or.inl ⟨by rfl, ?_⟩) ?_ ?_
  rotate_left
  · intro w'
    go_simp
    with_reducible rfl
  rotate_left
  · simp only [Act.put, List.setIfInBounds_toArray, List.set_cons_zero, List.set_cons_succ, i64_w, i32_w]
    rfl
  refine pure_ (i := 3) (N := some 12) (v := ?_) (a' := ?_) #[true, false, false, true, false, false, false, false] rfl rfl (any_of HT_.out (by kernel_rfl)) (fun _ _ _ h => h) (Or.inl ⟨by rfl, ?_⟩) ?_ ?_
  rotate_left
  · intro w'
    go_simp
    with_reducible rfl
  rotate_left
  · simp only [Act.put, List.setIfInBounds_toArray, List.set_cons_zero, List.set_cons_succ, i64_w, i32_w]
    rfl
  refine take_ (i := 1) (N := some 10) (v := ?_) (a' := ?_) #[true, true, false, true, false, false, false, false] rfl rfl (take_ofW HT_.out HW_.out (by kernel_rfl)) (fun _ _ _ h => h) (Or.inl ⟨by rfl, ?_⟩) hHeld ?_ ?_
  rotate_left
  · rintro w' ⟨s0, s1⟩
    go_simp
    with_reducible rfl
  rotate_left
  · simp only [Act.put, List.setIfInBounds_toArray, List.set_cons_zero, List.set_cons_succ, i64_w, i32_w]
    rfl
  refine pure_ (i := 2) (N := some 11) (v := ?_) (a' := ?_) #[true, true, true, true, false, false, false, false] rfl rfl (any_of HT_.out (by kernel_rfl)) (fun _ _ _ h => h) (Or.inl ⟨by rfl, ?_⟩) ?_ ?_
  rotate_left
  · intro w'
    go_simp
    with_reducible rfl
  rotate_left
  · simp only [Act.put, List.setIfInBounds_toArray, List.set_cons_zero, List.set_cons_succ, i64_w, i32_w]
    rfl
  refine pure_ (i := 6) (N := some 4) (v := ?_) (a' := ?_) #[true, true, true, true, false, false, true, false] rfl rfl (any_of HT_.out (by kernel_rfl)) (fun _ _ _ h => h) (Or.inl ⟨by rfl, ?_⟩) ?_ ?_
  rotate_left
  · intro w'
    go_simp
    with_reducible rfl
  rotate_left
  · simp only [Act.put, List.setIfInBounds_toArray, List.set_cons_zero, List.set_cons_succ, i64_w, i32_w]
    rfl
  refine take_ (i := 4) (N := some 13) (v := ?_) (a' := ?_) #[true, true, true, true, true, false, true, false] rfl rfl (take_ofW HT_.out HW_.out (by kernel_rfl)) (fun _ _ _ h => h) (Or.inl ⟨by rfl, ?_⟩) hHeld ?_ ?_
  rotate_left
  · rintro w' ⟨s0, s1⟩
    go_simp
    with_reducible rfl
  rotate_left
  · simp only [Act.put, List.setIfInBounds_toArray, List.set_cons_zero, List.set_cons_succ, i64_w, i32_w]
    rfl
  refine pure_ (i := 5) (N := some 14) (v := ?_) (a' := ?_) #[true, true, true, true, true, true, true, false] rfl rfl (any_of HT_.out (by kernel_rfl)) (fun _ _ _ h => h) (Or.inl ⟨by rfl, ?_⟩) ?_ ?_
  rotate_left
  · intro w'
    go_simp
    with_reducible rfl
  rotate_left
  · simp only [Act.put, List.setIfInBounds_toArray, List.set_cons_zero, List.set_cons_succ, i64_w, i32_w]
    rfl
  refine pure_ (i := 7) (N := some 5) (v := ?_) (a' := ?_) #[true, true, true, true, true, true, true, true] rfl rfl (any_of HT_.out (by kernel_rfl)) (fun _ _ _ h => h) (Or.inl ⟨by rfl, ?_⟩) ?_ ?_
  rotate_left
  · intro w'
    go_simp
    with_reducible rfl
  rotate_left
  · simp only [Act.put, List.setIfInBounds_toArray, List.set_cons_zero, List.set_cons_succ, i64_w, i32_w]
    rfl
  refine done_ (done_of HT_.out (by kernel_rfl)) ?_
  
  go_upto_region 10 with (fail)
  have HW := Lib.hid (show (((W.setCell ⟨g, 5, none⟩ (.int .i64 (r.arm - 1))).setCell ⟨g, 4, none⟩ (.bool true)).drew).heap[g]? = some (.cells ({ r with arm := r.arm - 1, fail := r.fail, down := true } : RD).cells 53 (0, 0)) from blk_drew (blk_set (blk_set HD.out 5 (.int .i64 (r.arm - 1))) 4 (.bool true)))
  have HF := Lib.hid (show (((W.setCell ⟨g, 5, none⟩ (.int .i64 (r.arm - 1))).setCell ⟨g, 4, none⟩ (.bool true)).drew).heap[g + 1]? = some (.cells rz 53 (0, 0)) from blk_drew (blk_far (blk_far HZ.out HNe.out (.int .i64 (r.arm - 1))) HNe.out (.bool true)))
  have HBe := Lib.hid (show Below w.heap.size w (((W.setCell ⟨g, 5, none⟩ (.int .i64 (r.arm - 1))).setCell ⟨g, 4, none⟩ (.bool true)).drew) from ((HB.out.setCell (p := ⟨g, 5, none⟩) HG.out (.int .i64 (r.arm - 1))).setCell (p := ⟨g, 4, none⟩) HG.out (.bool true)).drew)
  generalize ((W.setCell ⟨g, 5, none⟩ (.int .i64 (r.arm - 1))).setCell ⟨g, 4, none⟩ (.bool true)).drew = W8 at HW HF HBe ⊢
  clear c4 c5 c6 z4 z5 z6 HX HD HZ HB
  go_wp2_with (first | (refine wl_load 53 (.tmp 1) rfl rfl _ _ rfl (rd_ld HW.out) ?_) | (refine wl_store (old := rz) (cells := ({ r with arm := r.arm - 1, fail := r.fail, down := true } : RD).cells) 53 (.tmp 2) (.tmp 31) rfl rfl rfl rfl HF.out infoRd rfl (by simp [Value.oneCell', RD.cells]) ?_))
  refine bodyPost_ret (results_ct rfl _ _ (g + 1) 53 ({ r with arm := r.arm - 1, fail := r.fail, down := true } : RD).cells (0, 0) _ rfl (setRow_heap _ _ _ _ _ _ HF.out) Try.underlying53 rfl infoRd) rfl ?_
  exact ⟨rfl, below_setRow HBe.out (by have := HG.out; omega) _⟩

set_option maxRecDepth 100000 in
set_option maxHeartbeats 4000000 in
theorem go_case11 (r : RD) (hd : r.down = false) (hA : r.arm = 0) (hF : r.fail = 0) (hb : -1 ≤ r.arm ∧ r.arm ≤ 9223372036854775807 ∧ -1 ≤ r.fail ∧ r.fail ≤ 9223372036854775807) (w : World) : Calls Try.prog 57 #[.agg r.cells] w fun e w' => e = .returned (.tuple #[.agg ({ r with arm := r.arm - 1, fail := r.fail - 1, down := true } : RD).cells, .int .i64 6]) ∧ Below w.heap.size w w' := by
  have ea : (r.arm == 0) = true := by simp; omega
  have ef : (r.fail == 0) = true := by simp; omega
  have pa : 0 ≤ r.arm := by omega
  have pf : 0 ≤ r.fail := by omega
  have va : IntKind.i64.wrap (r.arm - 1) = r.arm - 1 := by rw [IntKind.wrap_i64]; omega
  have vf : IntKind.i64.wrap (r.fail - 1) = r.fail - 1 := by rw [IntKind.wrap_i64]; omega
  clear hA hF hb
  go_enter Try.func57, Try.ntmps57
  go_upto_region 1 with (fail)
  have HD := Lib.hid (blk_alloc (blk_new w (.cells r.cells 53)) RZ)
  have HZ := Lib.hid (show ((w.alloc (.cells r.cells 53)).alloc RZ).heap[w.heap.size + 1]? = some (.cells rz 53 (0, 0)) by rw [← World.size_alloc w (.cells r.cells 53)]; exact blk_new _ _)
  have HB := Lib.hid (below_alloc (below_alloc (Below.refl w.heap.size w) (.cells r.cells 53)) RZ)
  unfold RZ rz at HD HZ HB
  generalize (w.alloc (.cells r.cells 53)).alloc _ = W at HD HZ HB ⊢
  obtain ⟨g, hg⟩ : ∃ g, g = w.heap.size := ⟨_, rfl⟩
  rw [← hg] at HD HZ ⊢
  have HG := Lib.hid (show w.heap.size ≤ g by omega)
  have HNe := Lib.hid (show g + 1 ≠ g by omega)
  have c4 : W.cell? ⟨g, 4, none⟩ = some (.bool false) := by rw [blk_cell HD.out 4, ← hd]; rfl
  have c5 : W.cell? ⟨g, 5, none⟩ = some (.int .i64 r.arm) := (blk_cell HD.out 5).trans rfl
  have c6 : W.cell? ⟨g, 6, none⟩ = some (.int .i64 r.fail) := (blk_cell HD.out 6).trans rfl
  have z4 : W.frozen? ⟨g, 4, none⟩ = false := blk_frozen HD.out 4
  have z5 : W.frozen? ⟨g, 5, none⟩ = false := blk_frozen HD.out 5
  have z6 : W.frozen? ⟨g, 6, none⟩ = false := blk_frozen HD.out 6
  have HX := Lib.hid (show W.drew.cell? ⟨g, 5, none⟩ = some (.int .i64 r.arm) ∧ W.drew.cell? ⟨g, 6, none⟩ = some (.int .i64 r.fail) from ⟨c5, c6⟩)
  clear hd hg
  go_upto_region 3 with (fail)
  refine start_ (n := 8) (S := fun w' => w'.cell? ⟨g, 5, none⟩ = some (.int .i64 r.arm) ∧ w'.cell? ⟨g, 6, none⟩ = some (.int .i64 r.fail)) (ds := []) #[false, false, false, false, false, false, false, false] (by kernel_rfl) rfl rfl ⟨HX.out.1, HX.out.2⟩ (fun hHeld => ?_)
  refine with_tabW ref_operation.tab3 ref_operation.bits3 (fun HT_ HW_ => ?_)
  refine pure_ (i := 0) (N := some 9) (v := ?_) (a' := ?_) #[true, false, false, false, false, false, false, false] rfl rfl (any_of HT_.out (by kernel_rfl)) (fun _ _ _ h => h) (Or.inl ⟨by rfl, ?_⟩) ?_ ?_
  rotate_left
  · intro w'
    go_simp
    with_reducible rfl
  rotate_left
  · simp only [Act.put, List.setIfInBounds_toArray, List.set_cons_zero, List.set_cons_succ, i64_w, i32_w]
    rfl
  refine pure_ (i := 3) (N := some 12) (v := ?_) (a' := ?_) #[true, false, false, true, false, false, false, false] rfl rfl (any_of HT_.out (by kernel_rfl)) (fun _ _ _ h => h) (Or.inl ⟨by rfl, ?_⟩) ?_ ?_
  rotate_left
  · intro w'
    go_simp
    with_reducible rfl
  rotate_left
  · simp only [Act.put, List.setIfInBounds_toArray, List.set_cons_zero, List.set_cons_succ, i64_w, i32_w]
    rfl
  refine take_ (i := 1) (N := some 10) (v := ?_) (a' := ?_) #[true, true, false, true, false, false, false, false] rfl rfl (take_ofW HT_.out HW_.out (by kernel_rfl)) (fun _ _ _ h => h) (Or.inl ⟨by rfl, ?_⟩) hHeld ?_ ?_
  rotate_left
  · rintro w' ⟨s0, s1⟩
    go_simp
    with_reducible rfl
  rotate_left
  · simp only [Act.put, List.setIfInBounds_toArray, List.set_cons_zero, List.set_cons_succ, i64_w, i32_w]
    rfl
  refine pure_ (i := 2) (N := some 11) (v := ?_) (a' := ?_) #[true, true, true, true, false, false, false, false] rfl rfl (any_of HT_.out (by kernel_rfl)) (fun _ _ _ h => h) (Or.inl ⟨by rfl, ?_⟩) ?_ ?_
  rotate_left
  · intro w'
    go_simp
    with_reducible rfl
  rotate_left
  · simp only [Act.put, List.setIfInBounds_toArray, List.set_cons_zero, List.set_cons_succ, i64_w, i32_w]
    rfl
  refine pure_ (i := 6) (N := some 4) (v := ?_) (a' := ?_) #[true, true, true, true, false, false, true, false] rfl rfl (any_of HT_.out (by kernel_rfl)) (fun _ _ _ h => h) (Or.inl ⟨by rfl, ?_⟩) ?_ ?_
  rotate_left
  · intro w'
    go_simp
    with_reducible rfl
  rotate_left
  · simp only [Act.put, List.setIfInBounds_toArray, List.set_cons_zero, List.set_cons_succ, i64_w, i32_w]
    rfl
  refine take_ (i := 4) (N := some 13) (v := ?_) (a' := ?_) #[true, true, true, true, true, false, true, false] rfl rfl (take_ofW HT_.out HW_.out (by kernel_rfl)) (fun _ _ _ h => h) (Or.inl ⟨by rfl, ?_⟩) hHeld ?_ ?_
  rotate_left
  · rintro w' ⟨s0, s1⟩
    go_simp
    with_reducible rfl
  rotate_left
  · simp only [Act.put, List.setIfInBounds_toArray, List.set_cons_zero, List.set_cons_succ, i64_w, i32_w]
    rfl
  refine pure_ (i := 5) (N := some 14) (v := ?_) (a' := ?_) #[true, true, true, true, true, true, true, false] rfl rfl (any_of HT_.out (by kernel_rfl)) (fun _ _ _ h => h) (Or.inl ⟨by rfl, ?_⟩) ?_ ?_
  rotate_left
  · intro w'
    go_simp
    with_reducible rfl
  rotate_left
  · simp only [Act.put, List.setIfInBounds_toArray, List.set_cons_zero, List.set_cons_succ, i64_w, i32_w]
    rfl
  refine pure_ (i := 7) (N := some 5) (v := ?_) (a' := ?_) #[true, true, true, true, true, true, true, true] rfl rfl (any_of HT_.out (by kernel_rfl)) (fun _ _ _ h => h) (Or.inl ⟨by rfl, ?_⟩) ?_ ?_
  rotate_left
  · intro w'
    go_simp
    with_reducible rfl
  rotate_left
  · simp only [Act.put, List.setIfInBounds_toArray, List.set_cons_zero, List.set_cons_succ, i64_w, i32_w]
    rfl
  refine done_ (done_of HT_.out (by kernel_rfl)) ?_
  
  go_upto_region 10 with (fail)
  have HW := Lib.hid (show ((((W.setCell ⟨g, 5, none⟩ (.int .i64 (r.arm - 1))).setCell ⟨g, 6, none⟩ (.int .i64 (r.fail - 1))).setCell ⟨g, 4, none⟩ (.bool true)).drew).heap[g]? = some (.cells ({ r with arm := r.arm - 1, fail := r.fail - 1, down := true } : RD).cells 53 (0, 0)) from blk_drew (blk_set (blk_set (blk_set HD.out 5 (.int .i64 (r.arm - 1))) 6 (.int .i64 (r.fail - 1))) 4 (.bool true)))
  have HF := Lib.hid (show ((((W.setCell ⟨g, 5, none⟩ (.int .i64 (r.arm - 1))).setCell ⟨g, 6, none⟩ (.int .i64 (r.fail - 1))).setCell ⟨g, 4, none⟩ (.bool true)).drew).heap[g + 1]? = some (.cells rz 53 (0, 0)) from blk_drew (blk_far (blk_far (blk_far HZ.out HNe.out (.int .i64 (r.arm - 1))) HNe.out (.int .i64 (r.fail - 1))) HNe.out (.bool true)))
  have HBe := Lib.hid (show Below w.heap.size w ((((W.setCell ⟨g, 5, none⟩ (.int .i64 (r.arm - 1))).setCell ⟨g, 6, none⟩ (.int .i64 (r.fail - 1))).setCell ⟨g, 4, none⟩ (.bool true)).drew) from (((HB.out.setCell (p := ⟨g, 5, none⟩) HG.out (.int .i64 (r.arm - 1))).setCell (p := ⟨g, 6, none⟩) HG.out (.int .i64 (r.fail - 1))).setCell (p := ⟨g, 4, none⟩) HG.out (.bool true)).drew)
  generalize (((W.setCell ⟨g, 5, none⟩ (.int .i64 (r.arm - 1))).setCell ⟨g, 6, none⟩ (.int .i64 (r.fail - 1))).setCell ⟨g, 4, none⟩ (.bool true)).drew = W8 at HW HF HBe ⊢
  clear c4 c5 c6 z4 z5 z6 HX HD HZ HB
  go_wp2_with (first | (refine wl_load 53 (.tmp 1) rfl rfl _ _ rfl (rd_ld HW.out) ?_) | (refine wl_store (old := rz) (cells := ({ r with arm := r.arm - 1, fail := r.fail - 1, down := true } : RD).cells) 53 (.tmp 2) (.tmp 31) rfl rfl rfl rfl HF.out infoRd rfl (by simp [Value.oneCell', RD.cells]) ?_))
  refine bodyPost_ret (results_ct rfl _ _ (g + 1) 53 ({ r with arm := r.arm - 1, fail := r.fail - 1, down := true } : RD).cells (0, 0) _ rfl (setRow_heap _ _ _ _ _ _ HF.out) Try.underlying53 rfl infoRd) rfl ?_
  exact ⟨rfl, below_setRow HBe.out (by have := HG.out; omega) _⟩

set_option maxRecDepth 100000 in
set_option maxHeartbeats 4000000 in
theorem go_case12 (r : RD) (hd : r.down = false) (hA : r.arm = 0) (hF : 0 < r.fail) (hb : -1 ≤ r.arm ∧ r.arm ≤ 9223372036854775807 ∧ -1 ≤ r.fail ∧ r.fail ≤ 9223372036854775807) (w : World) : Calls Try.prog 57 #[.agg r.cells] w fun e w' => e = .returned (.tuple #[.agg ({ r with arm := r.arm - 1, fail := r.fail - 1, down := true } : RD).cells, .int .i64 6]) ∧ Below w.heap.size w w' := by
  have ea : (r.arm == 0) = true := by simp; omega
  have ef : (r.fail == 0) = false := by simp; omega
  have pa : 0 ≤ r.arm := by omega
  have pf : 0 ≤ r.fail := by omega
  have va : IntKind.i64.wrap (r.arm - 1) = r.arm - 1 := by rw [IntKind.wrap_i64]; omega
  have vf : IntKind.i64.wrap (r.fail - 1) = r.fail - 1 := by rw [IntKind.wrap_i64]; omega
  clear hA hF hb
  go_enter Try.func57, Try.ntmps57
  go_upto_region 1 with (fail)
  have HD := Lib.hid (blk_alloc (blk_new w (.cells r.cells 53)) RZ)
  have HZ := Lib.hid (show ((w.alloc (.cells r.cells 53)).alloc RZ).heap[w.heap.size + 1]? = some (.cells rz 53 (0, 0)) by rw [← World.size_alloc w (.cells r.cells 53)]; exact blk_new _ _)
  have HB := Lib.hid (below_alloc (below_alloc (Below.refl w.heap.size w) (.cells r.cells 53)) RZ)
  unfold RZ rz at HD HZ HB
  generalize (w.alloc (.cells r.cells 53)).alloc _ = W at HD HZ HB ⊢
  obtain ⟨g, hg⟩ : ∃ g, g = w.heap.size := ⟨_, rfl⟩
  rw [← hg] at HD HZ ⊢
  have HG := Lib.hid (show w.heap.size ≤ g by omega)
  have HNe := Lib.hid (show g + 1 ≠ g by omega)
  have c4 : W.cell? ⟨g, 4, none⟩ = some (.bool false) := by rw [blk_cell HD.out 4, ← hd]; rfl
  have c5 : W.cell? ⟨g, 5, none⟩ = some (.int .i64 r.arm) := (blk_cell HD.out 5).trans rfl
  have c6 : W.cell? ⟨g, 6, none⟩ = some (.int .i64 r.fail) := (blk_cell HD.out 6).trans rfl
  have z4 : W.frozen? ⟨g, 4, none⟩ = false := blk_frozen HD.out 4
  have z5 : W.frozen? ⟨g, 5, none⟩ = false := blk_frozen HD.out 5
  have z6 : W.frozen? ⟨g, 6, none⟩ = false := blk_frozen HD.out 6
  have HX := Lib.hid (show W.drew.cell? ⟨g, 5, none⟩ = some (.int .i64 r.arm) ∧ W.drew.cell? ⟨g, 6, none⟩ = some (.int .i64 r.fail) from ⟨c5, c6⟩)
  clear hd hg
  go_upto_region 3 with (fail)
  refine start_ (n := 8) (S := fun w' => w'.cell? ⟨g, 5, none⟩ = some (.int .i64 r.arm) ∧ w'.cell? ⟨g, 6, none⟩ = some (.int .i64 r.fail)) (ds := []) #[false, false, false, false, false, false, false, false] (by kernel_rfl) rfl rfl ⟨HX.out.1, HX.out.2⟩ (fun hHeld => ?_)
  refine with_tabW ref_operation.tab3 ref_operation.bits3 (fun HT_ HW_ => ?_)
  refine pure_ (i := 0) (N := some 9) (v := ?_) (a' := ?_) #[true, false, false, false, false, false, false, false] rfl rfl (any_of HT_.out (by kernel_rfl)) (fun _ _ _ h => h) (Or.inl ⟨by rfl, ?_⟩) ?_ ?_
  rotate_left
  · intro w'
    go_simp
    with_reducible rfl
  rotate_left
  · simp only [Act.put, List.setIfInBounds_toArray, List.set_cons_zero, List.set_cons_succ, i64_w, i32_w]
    rfl
  refine pure_ (i := 3) (N := some 12) (v := ?_) (a' := ?_) #[true, false, false, true, false, false, false, false] rfl rfl (any_of HT_.out (by kernel_rfl)) (fun _ _ _ h => h) (Or.inl ⟨by rfl, ?_⟩) ?_ ?_
  rotate_left
  · intro w'
    go_simp
    with_reducible rfl
  rotate_left
  · simp only [Act.put, List.setIfInBounds_toArray, List.set_cons_zero, List.set_cons_succ, i64_w, i32_w]
    rfl
  refine take_ (i := 1) (N := some 10) (v := ?_) (a' := ?_) #[true, true, false, true, false, false, false, false] rfl rfl (take_ofW HT_.out HW_.out (by kernel_rfl)) (fun _ _ _ h => h) (Or.inl ⟨by rfl, ?_⟩) hHeld ?_ ?_
  rotate_left
  · rintro w' ⟨s0, s1⟩
    go_simp
    with_reducible rfl
  rotate_left
  · simp only [Act.put, List.setIfInBounds_toArray, List.set_cons_zero, List.set_cons_succ, i64_w, i32_w]
    rfl
  refine pure_ (i := 2) (N := some 11) (v := ?_) (a' := ?_) #[true, true, true, true, false, false, false, false] rfl rfl (any_of HT_.out (by kernel_rfl)) (fun _ _ _ h => h) (Or.inl ⟨by rfl, ?_⟩) ?_ ?_
  rotate_left
  · intro w'
    go_simp
    with_reducible rfl
  rotate_left
  · simp only [Act.put, List.setIfInBounds_toArray, List.set_cons_zero, List.set_cons_succ, i64_w, i32_w]
    rfl
  refine pure_ (i := 6) (N := some 4) (v := ?_) (a' := ?_) #[true, true, true, true, false, false, true, false] rfl rfl (any_of HT_.out (by kernel_rfl)) (fun _ _ _ h => h) (Or.inl ⟨by rfl, ?_⟩) ?_ ?_
  rotate_left
  · intro w'
    go_simp
    with_reducible rfl
  rotate_left
  · simp only [Act.put, List.setIfInBounds_toArray, List.set_cons_zero, List.set_cons_succ, i64_w, i32_w]
    rfl
  refine take_ (i := 4) (N := some 13) (v := ?_) (a' := ?_) #[true, true, true, true, true, false, true, false] rfl rfl (take_ofW HT_.out HW_.out (by kernel_rfl)) (fun _ _ _ h => h) (Or.inl ⟨by rfl, ?_⟩) hHeld ?_ ?_
  rotate_left
  · rintro w' ⟨s0, s1⟩
    go_simp
    with_reducible rfl
  rotate_left
  · simp only [Act.put, List.setIfInBounds_toArray, List.set_cons_zero, List.set_cons_succ, i64_w, i32_w]
    rfl
  refine pure_ (i := 5) (N := some 14) (v := ?_) (a' := ?_) #[true, true, true, true, true, true, true, false] rfl rfl (any_of HT_.out (by kernel_rfl)) (fun _ _ _ h => h) (Or.inl ⟨by rfl, ?_⟩) ?_ ?_
  rotate_left
  · intro w'
    go_simp
    with_reducible rfl
  rotate_left
  · simp only [Act.put, List.setIfInBounds_toArray, List.set_cons_zero, List.set_cons_succ, i64_w, i32_w]
    rfl
  refine pure_ (i := 7) (N := some 5) (v := ?_) (a' := ?_) #[true, true, true, true, true, true, true, true] rfl rfl (any_of HT_.out (by kernel_rfl)) (fun _ _ _ h => h) (Or.inl ⟨by rfl, ?_⟩) ?_ ?_
  rotate_left
  · intro w'
    go_simp
    with_reducible rfl
  rotate_left
  · simp only [Act.put, List.setIfInBounds_toArray, List.set_cons_zero, List.set_cons_succ, i64_w, i32_w]
    rfl
  refine done_ (done_of HT_.out (by kernel_rfl)) ?_
  
  go_upto_region 10 with (fail)
  have HW := Lib.hid (show ((((W.setCell ⟨g, 5, none⟩ (.int .i64 (r.arm - 1))).setCell ⟨g, 6, none⟩ (.int .i64 (r.fail - 1))).setCell ⟨g, 4, none⟩ (.bool true)).drew).heap[g]? = some (.cells ({ r with arm := r.arm - 1, fail := r.fail - 1, down := true } : RD).cells 53 (0, 0)) from blk_drew (blk_set (blk_set (blk_set HD.out 5 (.int .i64 (r.arm - 1))) 6 (.int .i64 (r.fail - 1))) 4 (.bool true)))
  have HF := Lib.hid (show ((((W.setCell ⟨g, 5, none⟩ (.int .i64 (r.arm - 1))).setCell ⟨g, 6, none⟩ (.int .i64 (r.fail - 1))).setCell ⟨g, 4, none⟩ (.bool true)).drew).heap[g + 1]? = some (.cells rz 53 (0, 0)) from blk_drew (blk_far (blk_far (blk_far HZ.out HNe.out (.int .i64 (r.arm - 1))) HNe.out (.int .i64 (r.fail - 1))) HNe.out (.bool true)))
  have HBe := Lib.hid (show Below w.heap.size w ((((W.setCell ⟨g, 5, none⟩ (.int .i64 (r.arm - 1))).setCell ⟨g, 6, none⟩ (.int .i64 (r.fail - 1))).setCell ⟨g, 4, none⟩ (.bool true)).drew) from (((HB.out.setCell (p := ⟨g, 5, none⟩) HG.out (.int .i64 (r.arm - 1))).setCell (p := ⟨g, 6, none⟩) HG.out (.int .i64 (r.fail - 1))).setCell (p := ⟨g, 4, none⟩) HG.out (.bool true)).drew)
  generalize (((W.setCell ⟨g, 5, none⟩ (.int .i64 (r.arm - 1))).setCell ⟨g, 6, none⟩ (.int .i64 (r.fail - 1))).setCell ⟨g, 4, none⟩ (.bool true)).drew = W8 at HW HF HBe ⊢
  clear c4 c5 c6 z4 z5 z6 HX HD HZ HB
  go_wp2_with (first | (refine wl_load 53 (.tmp 1) rfl rfl _ _ rfl (rd_ld HW.out) ?_) | (refine wl_store (old := rz) (cells := ({ r with arm := r.arm - 1, fail := r.fail - 1, down := true } : RD).cells) 53 (.tmp 2) (.tmp 31) rfl rfl rfl rfl HF.out infoRd rfl (by simp [Value.oneCell', RD.cells]) ?_))
  refine bodyPost_ret (results_ct rfl _ _ (g + 1) 53 ({ r with arm := r.arm - 1, fail := r.fail - 1, down := true } : RD).cells (0, 0) _ rfl (setRow_heap _ _ _ _ _ _ HF.out) Try.underlying53 rfl infoRd) rfl ?_
  exact ⟨rfl, below_setRow HBe.out (by have := HG.out; omega) _⟩

set_option maxRecDepth 100000 in
set_option maxHeartbeats 4000000 in
theorem go_case20 (r : RD) (hd : r.down = false) (hA : 0 < r.arm) (hF : r.fail < 0) (hb : -1 ≤ r.arm ∧ r.arm ≤ 9223372036854775807 ∧ -1 ≤ r.fail ∧ r.fail ≤ 9223372036854775807) (w : World) : Calls Try.prog 57 #[.agg r.cells] w fun e w' => e = .returned (.tuple #[.agg ({ r with arm := r.arm - 1, fail := r.fail } : RD).cells, .int .i64 0]) ∧ Below w.heap.size w w' := by
  have ea : (r.arm == 0) = false := by simp; omega
  have ef : (r.fail == 0) = false := by simp; omega
  have pa : 0 ≤ r.arm := by omega
  have pf : ¬ 0 ≤ r.fail := by omega
  have va : IntKind.i64.wrap (r.arm - 1) = r.arm - 1 := by rw [IntKind.wrap_i64]; omega
  have vf : IntKind.i64.wrap (r.fail - 1) = r.fail - 1 := by rw [IntKind.wrap_i64]; omega
  clear hA hF hb
  go_enter Try.func57, Try.ntmps57
  go_upto_region 1 with (fail)
  have HD := Lib.hid (blk_alloc (blk_new w (.cells r.cells 53)) RZ)
  have HZ := Lib.hid (show ((w.alloc (.cells r.cells 53)).alloc RZ).heap[w.heap.size + 1]? = some (.cells rz 53 (0, 0)) by rw [← World.size_alloc w (.cells r.cells 53)]; exact blk_new _ _)
  have HB := Lib.hid (below_alloc (below_alloc (Below.refl w.heap.size w) (.cells r.cells 53)) RZ)
  unfold RZ rz at HD HZ HB
  generalize (w.alloc (.cells r.cells 53)).alloc _ = W at HD HZ HB ⊢
  obtain ⟨g, hg⟩ : ∃ g, g = w.heap.size := ⟨_, rfl⟩
  rw [← hg] at HD HZ ⊢
  have HG := Lib.hid (show w.heap.size ≤ g by omega)
  have HNe := Lib.hid (show g + 1 ≠ g by omega)
  have c4 : W.cell? ⟨g, 4, none⟩ = some (.bool false) := by rw [blk_cell HD.out 4, ← hd]; rfl
  have c5 : W.cell? ⟨g, 5, none⟩ = some (.int .i64 r.arm) := (blk_cell HD.out 5).trans rfl
  have c6 : W.cell? ⟨g, 6, none⟩ = some (.int .i64 r.fail) := (blk_cell HD.out 6).trans rfl
  have z4 : W.frozen? ⟨g, 4, none⟩ = false := blk_frozen HD.out 4
  have z5 : W.frozen? ⟨g, 5, none⟩ = false := blk_frozen HD.out 5
  have z6 : W.frozen? ⟨g, 6, none⟩ = false := blk_frozen HD.out 6
  have HX := Lib.hid (show W.drew.cell? ⟨g, 5, none⟩ = some (.int .i64 r.arm) ∧ W.drew.cell? ⟨g, 6, none⟩ = some (.int .i64 r.fail) from ⟨c5, c6⟩)
  clear hd hg
  go_upto_region 3 with (fail)
  refine start_ (n := 8) (S := fun w' => w'.cell? ⟨g, 5, none⟩ = some (.int .i64 r.arm) ∧ w'.cell? ⟨g, 6, none⟩ = some (.int .i64 r.fail)) (ds := []) #[false, false, false, false, false, false, false, false] (by kernel_rfl) rfl rfl ⟨HX.out.1, HX.out.2⟩ (fun hHeld => ?_)
  refine with_tabW ref_operation.tab3 ref_operation.bits3 (fun HT_ HW_ => ?_)
  refine pure_ (i := 0) (N := some 9) (v := ?_) (a' := ?_) #[true, false, false, false, false, false, false, false] rfl rfl (any_of HT_.out (by kernel_rfl)) (fun _ _ _ h => h) (Or.inl ⟨by rfl, ?_⟩) ?_ ?_
  rotate_left
  · intro w'
    go_simp
    with_reducible rfl
  rotate_left
  · simp only [Act.put, List.setIfInBounds_toArray, List.set_cons_zero, List.set_cons_succ, i64_w, i32_w]
    rfl
  refine pure_ (i := 3) (N := some 12) (v := ?_) (a' := ?_) #[true, false, false, true, false, false, false, false] rfl rfl (any_of HT_.out (by kernel_rfl)) (fun _ _ _ h => h) (Or.inl ⟨by rfl, ?_⟩) ?_ ?_
  rotate_left
  · intro w'
    go_simp
    with_reducible rfl
  rotate_left
  · simp only [Act.put, List.setIfInBounds_toArray, List.set_cons_zero, List.set_cons_succ, i64_w, i32_w]
    rfl
  refine take_ (i := 1) (N := some 10) (v := ?_) (a' := ?_) #[true, true, false, true, false, false, false, false] rfl rfl (take_ofW HT_.out HW_.out (by kernel_rfl)) (fun _ _ _ h => h) (Or.inl ⟨by rfl, ?_⟩) hHeld ?_ ?_
  rotate_left
  · rintro w' ⟨s0, s1⟩
    go_simp
    with_reducible rfl
  rotate_left
  · simp only [Act.put, List.setIfInBounds_toArray, List.set_cons_zero, List.set_cons_succ, i64_w, i32_w]
    rfl
  refine pure_ (i := 2) (N := some 11) (v := ?_) (a' := ?_) #[true, true, true, true, false, false, false, false] rfl rfl (any_of HT_.out (by kernel_rfl)) (fun _ _ _ h => h) (Or.inl ⟨by rfl, ?_⟩) ?_ ?_
  rotate_left
  · intro w'
    go_simp
    with_reducible rfl
  rotate_left
  · simp only [Act.put, List.setIfInBounds_toArray, List.set_cons_zero, List.set_cons_succ, i64_w, i32_w]
    rfl
  refine pure_ (i := 6) (N := some 4) (v := ?_) (a' := ?_) #[true, true, true, true, false, false, true, false] rfl rfl (any_of HT_.out (by kernel_rfl)) (fun _ _ _ h => h) (Or.inl ⟨by rfl, ?_⟩) ?_ ?_
  rotate_left
  · intro w'
    go_simp
    with_reducible rfl
  rotate_left
  · simp only [Act.put, List.setIfInBounds_toArray, List.set_cons_zero, List.set_cons_succ, i64_w, i32_w]
    rfl
  refine take_ (i := 4) (N := some 13) (v := ?_) (a' := ?_) #[true, true, true, true, true, false, true, false] rfl rfl (take_ofW HT_.out HW_.out (by kernel_rfl)) (fun _ _ _ h => h) (Or.inl ⟨by rfl, ?_⟩) hHeld ?_ ?_
  rotate_left
  · rintro w' ⟨s0, s1⟩
    go_simp
    with_reducible rfl
  rotate_left
  · simp only [Act.put, List.setIfInBounds_toArray, List.set_cons_zero, List.set_cons_succ, i64_w, i32_w]
    rfl
  refine pure_ (i := 5) (N := some 14) (v := ?_) (a' := ?_) #[true, true, true, true, true, true, true, false] rfl rfl (any_of HT_.out (by kernel_rfl)) (fun _ _ _ h => h) (Or.inl ⟨by rfl, ?_⟩) ?_ ?_
  rotate_left
  · intro w'
    go_simp
    with_reducible rfl
  rotate_left
  · simp only [Act.put, List.setIfInBounds_toArray, List.set_cons_zero, List.set_cons_succ, i64_w, i32_w]
    rfl
  refine pure_ (i := 7) (N := some 5) (v := ?_) (a' := ?_) #[true, true, true, true, true, true, true, true] rfl rfl (any_of HT_.out (by kernel_rfl)) (fun _ _ _ h => h) (Or.inl ⟨by rfl, ?_⟩) ?_ ?_
  rotate_left
  · intro w'
    go_simp
    with_reducible rfl
  rotate_left
  · simp only [Act.put, List.setIfInBounds_toArray, List.set_cons_zero, List.set_cons_succ, i64_w, i32_w]
    rfl
  refine done_ (done_of HT_.out (by kernel_rfl)) ?_
  
  go_upto_region 13 with (fail)
  have HW := Lib.hid (show ((W.setCell ⟨g, 5, none⟩ (.int .i64 (r.arm - 1))).drew).heap[g]? = some (.cells ({ r with arm := r.arm - 1, fail := r.fail } : RD).cells 53 (0, 0)) from blk_drew (blk_set HD.out 5 (.int .i64 (r.arm - 1))))
  have HF := Lib.hid (show ((W.setCell ⟨g, 5, none⟩ (.int .i64 (r.arm - 1))).drew).heap[g + 1]? = some (.cells rz 53 (0, 0)) from blk_drew (blk_far HZ.out HNe.out (.int .i64 (r.arm - 1))))
  have HBe := Lib.hid (show Below w.heap.size w ((W.setCell ⟨g, 5, none⟩ (.int .i64 (r.arm - 1))).drew) from (HB.out.setCell (p := ⟨g, 5, none⟩) HG.out (.int .i64 (r.arm - 1))).drew)
  generalize (W.setCell ⟨g, 5, none⟩ (.int .i64 (r.arm - 1))).drew = W8 at HW HF HBe ⊢
  clear c4 c5 c6 z4 z5 z6 HX HD HZ HB
  go_wp2_with (first | (refine wl_load 53 (.tmp 1) rfl rfl _ _ rfl (rd_ld HW.out) ?_) | (refine wl_store (old := rz) (cells := ({ r with arm := r.arm - 1, fail := r.fail } : RD).cells) 53 (.tmp 2) (.tmp 36) rfl rfl rfl rfl HF.out infoRd rfl (by simp [Value.oneCell', RD.cells]) ?_))
  refine bodyPost_ret (results_ct rfl _ _ (g + 1) 53 ({ r with arm := r.arm - 1, fail := r.fail } : RD).cells (0, 0) _ rfl (setRow_heap _ _ _ _ _ _ HF.out) Try.underlying53 rfl infoRd) rfl ?_
  exact ⟨rfl, below_setRow HBe.out (by have := HG.out; omega) _⟩

set_option maxRecDepth 100000 in
set_option maxHeartbeats 4000000 in
theorem go_case21 (r : RD) (hd : r.down = false) (hA : 0 < r.arm) (hF : r.fail = 0) (hb : -1 ≤ r.arm ∧ r.arm ≤ 9223372036854775807 ∧ -1 ≤ r.fail ∧ r.fail ≤ 9223372036854775807) (w : World) : Calls Try.prog 57 #[.agg r.cells] w fun e w' => e = .returned (.tuple #[.agg ({ r with arm := r.arm - 1, fail := r.fail - 1 } : RD).cells, .int .i64 r.wth]) ∧ Below w.heap.size w w' := by
  have ea : (r.arm == 0) = false := by simp; omega
  have ef : (r.fail == 0) = true := by simp; omega
  have pa : 0 ≤ r.arm := by omega
  have pf : 0 ≤ r.fail := by omega
  have va : IntKind.i64.wrap (r.arm - 1) = r.arm - 1 := by rw [IntKind.wrap_i64]; omega
  have vf : IntKind.i64.wrap (r.fail - 1) = r.fail - 1 := by rw [IntKind.wrap_i64]; omega
  clear hA hF hb
  go_enter Try.func57, Try.ntmps57
  go_upto_region 1 with (fail)
  have HD := Lib.hid (blk_alloc (blk_new w (.cells r.cells 53)) RZ)
  have HZ := Lib.hid (show ((w.alloc (.cells r.cells 53)).alloc RZ).heap[w.heap.size + 1]? = some (.cells rz 53 (0, 0)) by rw [← World.size_alloc w (.cells r.cells 53)]; exact blk_new _ _)
  have HB := Lib.hid (below_alloc (below_alloc (Below.refl w.heap.size w) (.cells r.cells 53)) RZ)
  unfold RZ rz at HD HZ HB
  generalize (w.alloc (.cells r.cells 53)).alloc _ = W at HD HZ HB ⊢
  obtain ⟨g, hg⟩ : ∃ g, g = w.heap.size := ⟨_, rfl⟩
  rw [← hg] at HD HZ ⊢
  have HG := Lib.hid (show w.heap.size ≤ g by omega)
  have HNe := Lib.hid (show g + 1 ≠ g by omega)
  have c4 : W.cell? ⟨g, 4, none⟩ = some (.bool false) := by rw [blk_cell HD.out 4, ← hd]; rfl
  have c5 : W.cell? ⟨g, 5, none⟩ = some (.int .i64 r.arm) := (blk_cell HD.out 5).trans rfl
  have c6 : W.cell? ⟨g, 6, none⟩ = some (.int .i64 r.fail) := (blk_cell HD.out 6).trans rfl
  have z4 : W.frozen? ⟨g, 4, none⟩ = false := blk_frozen HD.out 4
  have z5 : W.frozen? ⟨g, 5, none⟩ = false := blk_frozen HD.out 5
  have z6 : W.frozen? ⟨g, 6, none⟩ = false := blk_frozen HD.out 6
  have HX := Lib.hid (show W.drew.cell? ⟨g, 5, none⟩ = some (.int .i64 r.arm) ∧ W.drew.cell? ⟨g, 6, none⟩ = some (.int .i64 r.fail) from ⟨c5, c6⟩)
  clear hd hg
  go_upto_region 3 with (fail)
  refine start_ (n := 8) (S := fun w' => w'.cell? ⟨g, 5, none⟩ = some (.int .i64 r.arm) ∧ w'.cell? ⟨g, 6, none⟩ = some (.int .i64 r.fail)) (ds := []) #[false, false, false, false, false, false, false, false] (by kernel_rfl) rfl rfl ⟨HX.out.1, HX.out.2⟩ (fun hHeld => ?_)
  refine with_tabW ref_operation.tab3 ref_operation.bits3 (fun HT_ HW_ => ?_)
  refine pure_ (i := 0) (N := some 9) (v := ?_) (a' := ?_) #[true, false, false, false, false, false, false, false] rfl rfl (any_of HT_.out (by kernel_rfl)) (fun _ _ _ h => h) (Or.inl ⟨by rfl, ?_⟩) ?_ ?_
  rotate_left
  · intro w'
    go_simp
    with_reducible rfl
  rotate_left
  · simp only [Act.put, List.setIfInBounds_toArray, List.set_cons_zero, List.set_cons_succ, i64_w, i32_w]
    rfl
  refine pure_ (i := 3) (N := some 12) (v := ?_) (a' := ?_) #[true, false, false, true, false, false, false, false] rfl rfl (any_of HT_.out (by kernel_rfl)) (fun _ _ _ h => h) (Or.inl ⟨by rfl, ?_⟩) ?_ ?_
  rotate_left
  · intro w'
    go_simp
    with_reducible rfl
  rotate_left
  · simp only [Act.put, List.setIfInBounds_toArray, List.set_cons_zero, List.set_cons_succ, i64_w, i32_w]
    rfl
  refine take_ (i := 1) (N := some 10) (v := ?_) (a' := ?_) #[true, true, false, true, false, false, false, false] rfl rfl (take_ofW HT_.out HW_.out (by kernel_rfl)) (fun _ _ _ h => h) (Or.inl ⟨by rfl, ?_⟩) hHeld ?_ ?_
  rotate_left
  · rintro w' ⟨s0, s1⟩
    go_simp
    with_reducible rfl
  rotate_left
  · simp only [Act.put, List.setIfInBounds_toArray, List.set_cons_zero, List.set_cons_succ, i64_w, i32_w]
    rfl
  refine pure_ (i := 2) (N := some 11) (v := ?_) (a' := ?_) #[true, true, true, true, false, false, false, false] rfl rfl (any_of HT_.out (by kernel_rfl)) (fun _ _ _ h => h) (Or.inl ⟨by rfl, ?_⟩) ?_ ?_
  rotate_left
  · intro w'
    go_simp
    with_reducible rfl
  rotate_left
  · simp only [Act.put, List.setIfInBounds_toArray, List.set_cons_zero, List.set_cons_succ, i64_w, i32_w]
    rfl
  refine pure_ (i := 6) (N := some 4) (v := ?_) (a' := ?_) #[true, true, true, true, false, false, true, false] rfl rfl (any_of HT_.out (by kernel_rfl)) (fun _ _ _ h => h) (Or.inl ⟨by rfl, ?_⟩) ?_ ?_
  rotate_left
  · intro w'
    go_simp
    with_reducible rfl
  rotate_left
  · simp only [Act.put, List.setIfInBounds_toArray, List.set_cons_zero, List.set_cons_succ, i64_w, i32_w]
    rfl
  refine take_ (i := 4) (N := some 13) (v := ?_) (a' := ?_) #[true, true, true, true, true, false, true, false] rfl rfl (take_ofW HT_.out HW_.out (by kernel_rfl)) (fun _ _ _ h => h) (Or.inl ⟨by rfl, ?_⟩) hHeld ?_ ?_
  rotate_left
  · rintro w' ⟨s0, s1⟩
    go_simp
    with_reducible rfl
  rotate_left
  · simp only [Act.put, List.setIfInBounds_toArray, List.set_cons_zero, List.set_cons_succ, i64_w, i32_w]
    rfl
  refine pure_ (i := 5) (N := some 14) (v := ?_) (a' := ?_) #[true, true, true, true, true, true, true, false] rfl rfl (any_of HT_.out (by kernel_rfl)) (fun _ _ _ h => h) (Or.inl ⟨by rfl, ?_⟩) ?_ ?_
  rotate_left
  · intro w'
    go_simp
    with_reducible rfl
  rotate_left
  · simp only [Act.put, List.setIfInBounds_toArray, List.set_cons_zero, List.set_cons_succ, i64_w, i32_w]
    rfl
  refine pure_ (i := 7) (N := some 5) (v := ?_) (a' := ?_) #[true, true, true, true, true, true, true, true] rfl rfl (any_of HT_.out (by kernel_rfl)) (fun _ _ _ h => h) (Or.inl ⟨by rfl, ?_⟩) ?_ ?_
  rotate_left
  · intro w'
    go_simp
    with_reducible rfl
  rotate_left
  · simp only [Act.put, List.setIfInBounds_toArray, List.set_cons_zero, List.set_cons_succ, i64_w, i32_w]
    rfl
  refine done_ (done_of HT_.out (by kernel_rfl)) ?_
  
  go_upto_region 12 with (fail)
  have HW := Lib.hid (show (((W.setCell ⟨g, 5, none⟩ (.int .i64 (r.arm - 1))).setCell ⟨g, 6, none⟩ (.int .i64 (r.fail - 1))).drew).heap[g]? = some (.cells ({ r with arm := r.arm - 1, fail := r.fail - 1 } : RD).cells 53 (0, 0)) from blk_drew (blk_set (blk_set HD.out 5 (.int .i64 (r.arm - 1))) 6 (.int .i64 (r.fail - 1))))
  have HF := Lib.hid (show (((W.setCell ⟨g, 5, none⟩ (.int .i64 (r.arm - 1))).setCell ⟨g, 6, none⟩ (.int .i64 (r.fail - 1))).drew).heap[g + 1]? = some (.cells rz 53 (0, 0)) from blk_drew (blk_far (blk_far HZ.out HNe.out (.int .i64 (r.arm - 1))) HNe.out (.int .i64 (r.fail - 1))))
  have HBe := Lib.hid (show Below w.heap.size w (((W.setCell ⟨g, 5, none⟩ (.int .i64 (r.arm - 1))).setCell ⟨g, 6, none⟩ (.int .i64 (r.fail - 1))).drew) from ((HB.out.setCell (p := ⟨g, 5, none⟩) HG.out (.int .i64 (r.arm - 1))).setCell (p := ⟨g, 6, none⟩) HG.out (.int .i64 (r.fail - 1))).drew)
  generalize ((W.setCell ⟨g, 5, none⟩ (.int .i64 (r.arm - 1))).setCell ⟨g, 6, none⟩ (.int .i64 (r.fail - 1))).drew = W8 at HW HF HBe ⊢
  clear c4 c5 c6 z4 z5 z6 HX HD HZ HB
  have c7 := Lib.hid (show W8.drew.cell? ⟨g, 7, none⟩ = some (.int .i64 r.wth) from (blk_cell (blk_drew HW.out) 7).trans rfl)
  have HLd := Lib.hid (rd_ld (blk_drew HW.out))
  have HS2 := Lib.hid (show (World.setRow W8.drew (g + 1) ({ r with arm := r.arm - 1, fail := r.fail - 1 } : RD).cells).heap[g]? = some (.cells ({ r with arm := r.arm - 1, fail := r.fail - 1 } : RD).cells 53 (0, 0)) from (setRow_other _ _ _ _ (fun e => HNe.out e.symm)).trans (blk_drew HW.out))
  refine start_ (n := 5) (S := fun w' => (Instr.loadAt 53 (.pointer (some ⟨g, 0, none⟩))).run Try.prog w' = .ok (.agg ({ r with arm := r.arm - 1, fail := r.fail - 1 } : RD).cells) w' ∧ w'.cell? ⟨g, 7, none⟩ = some (.int .i64 r.wth)) (ds := []) #[false, false, false, false, false] (by kernel_rfl) rfl rfl ⟨HLd.out, c7.out⟩ (fun hHeld => ?_)
  refine with_tabW ref_operation.tab12 ref_operation.bits12 (fun HT_ HW_ => ?_)
  refine pure_ (i := 1) (N := some 34) (v := ?_) (a' := ?_) #[false, true, false, false, false] rfl rfl (any_of HT_.out (by kernel_rfl)) (fun _ _ _ h => h) (Or.inl ⟨by rfl, ?_⟩) ?_ ?_
  rotate_left
  · intro w'
    go_simp
    with_reducible rfl
  rotate_left
  · simp only [Act.put, List.setIfInBounds_toArray, List.set_cons_zero, List.set_cons_succ, i64_w, i32_w]
    rfl
  refine take_ (i := 0) (N := some 33) (v := ?_) (a' := ?_) #[true, true, false, false, false] rfl rfl (take_ofW HT_.out HW_.out (by kernel_rfl)) (fun _ _ _ h => h) (Or.inl ⟨by rfl, ?_⟩) hHeld ?_ ?_
  rotate_left
  · rintro w' ⟨s0, s1⟩
    clear s1
    refine Eq.trans (exec_load (by rfl) (by rfl) s0) ?_
    with_reducible rfl
  rotate_left
  · simp only [Act.put, List.setIfInBounds_toArray, List.set_cons_zero, List.set_cons_succ, i64_w, i32_w]
    rfl
  refine take_ (i := 2) (N := some 35) (v := ?_) (a' := ?_) #[true, true, true, false, false] rfl rfl (take_ofW HT_.out HW_.out (by kernel_rfl)) (fun _ _ _ h => h) (Or.inl ⟨by rfl, ?_⟩) hHeld ?_ ?_
  rotate_left
  · rintro w' ⟨s0, s1⟩
    clear s0
    go_simp
    with_reducible rfl
  rotate_left
  · simp only [Act.put, List.setIfInBounds_toArray, List.set_cons_zero, List.set_cons_succ, i64_w, i32_w]
    rfl
  refine one_ (i := 3) (N := none) #[true, true, true, true, false] rfl rfl (one_of HT_.out (by kernel_rfl)) (by decide) (fun K hK => ?_)
  refine skip_ (w1 := ?_) (by rfl) rfl ?_ ?_
  rotate_left
  · refine exec_store (t := 53) (p := .tmp 2) (v := .tmp 33) (g := g + 1) (old := rz) (cells := ({ r with arm := r.arm - 1, fail := r.fail - 1 } : RD).cells) ?_ ?_ ?_ (blk_drew HF.out) infoRd rfl (by simp [Value.oneCell', RD.cells])
    all_goals rfl
  refine hK.out _ _ ⟨rd_ld HS2.out, (blk_cell HS2.out 7).trans rfl⟩ (fun hHeld => ?_)
  clear hK K
  refine pure_ (i := 4) (N := some 3) (v := ?_) (a' := ?_) #[true, true, true, true, true] rfl rfl (any_of HT_.out (by kernel_rfl)) (fun _ _ _ h => h) (Or.inl ⟨by rfl, ?_⟩) ?_ ?_
  rotate_left
  · intro w'
    go_simp
    with_reducible rfl
  rotate_left
  · simp only [Act.put, List.setIfInBounds_toArray, List.set_cons_zero, List.set_cons_succ, i64_w, i32_w]
    rfl
  refine done_ (done_of HT_.out (by kernel_rfl)) ?_
  
  go_wp2
  refine bodyPost_ret (results_ct rfl _ _ (g + 1) 53 ({ r with arm := r.arm - 1, fail := r.fail - 1 } : RD).cells (0, 0) _ rfl (setRow_heap _ _ _ _ _ _ (blk_drew HF.out)) Try.underlying53 rfl infoRd) rfl ?_
  exact ⟨rfl, below_setRow HBe.out.drew (by have := HG.out; omega) _⟩

set_option maxRecDepth 100000 in
set_option maxHeartbeats 4000000 in
theorem go_case22 (r : RD) (hd : r.down = false) (hA : 0 < r.arm) (hF : 0 < r.fail) (hb : -1 ≤ r.arm ∧ r.arm ≤ 9223372036854775807 ∧ -1 ≤ r.fail ∧ r.fail ≤ 9223372036854775807) (w : World) : Calls Try.prog 57 #[.agg r.cells] w fun e w' => e = .returned (.tuple #[.agg ({ r with arm := r.arm - 1, fail := r.fail - 1 } : RD).cells, .int .i64 0]) ∧ Below w.heap.size w w' := by
  have ea : (r.arm == 0) = false := by simp; omega
  have ef : (r.fail == 0) = false := by simp; omega
  have pa : 0 ≤ r.arm := by omega
  have pf : 0 ≤ r.fail := by omega
  have va : IntKind.i64.wrap (r.arm - 1) = r.arm - 1 := by rw [IntKind.wrap_i64]; omega
  have vf : IntKind.i64.wrap (r.fail - 1) = r.fail - 1 := by rw [IntKind.wrap_i64]; omega
  clear hA hF hb
  go_enter Try.func57, Try.ntmps57
  go_upto_region 1 with (fail)
  have HD := Lib.hid (blk_alloc (blk_new w (.cells r.cells 53)) RZ)
  have HZ := Lib.hid (show ((w.alloc (.cells r.cells 53)).alloc RZ).heap[w.heap.size + 1]? = some (.cells rz 53 (0, 0)) by rw [← World.size_alloc w (.cells r.cells 53)]; exact blk_new _ _)
  have HB := Lib.hid (below_alloc (below_alloc (Below.refl w.heap.size w) (.cells r.cells 53)) RZ)
  unfold RZ rz at HD HZ HB
  generalize (w.alloc (.cells r.cells 53)).alloc _ = W at HD HZ HB ⊢
  obtain ⟨g, hg⟩ : ∃ g, g = w.heap.size := ⟨_, rfl⟩
  rw [← hg] at HD HZ ⊢
  have HG := Lib.hid (show w.heap.size ≤ g by omega)
  have HNe := Lib.hid (show g + 1 ≠ g by omega)
  have c4 : W.cell? ⟨g, 4, none⟩ = some (.bool false) := by rw [blk_cell HD.out 4, ← hd]; rfl
  have c5 : W.cell? ⟨g, 5, none⟩ = some (.int .i64 r.arm) := (blk_cell HD.out 5).trans rfl
  have c6 : W.cell? ⟨g, 6, none⟩ = some (.int .i64 r.fail) := (blk_cell HD.out 6).trans rfl
  have z4 : W.frozen? ⟨g, 4, none⟩ = false := blk_frozen HD.out 4
  have z5 : W.frozen? ⟨g, 5, none⟩ = false := blk_frozen HD.out 5
  have z6 : W.frozen? ⟨g, 6, none⟩ = false := blk_frozen HD.out 6
  have HX := Lib.hid (show W.drew.cell? ⟨g, 5, none⟩ = some (.int .i64 r.arm) ∧ W.drew.cell? ⟨g, 6, none⟩ = some (.int .i64 r.fail) from ⟨c5, c6⟩)
  clear hd hg
  go_upto_region 3 with (fail)
  refine start_ (n := 8) (S := fun w' => w'.cell? ⟨g, 5, none⟩ = some (.int .i64 r.arm) ∧ w'.cell? ⟨g, 6, none⟩ = some (.int .i64 r.fail)) (ds := []) #[false, false, false, false, false, false, false, false] (by kernel_rfl) rfl rfl ⟨HX.out.1, HX.out.2⟩ (fun hHeld => ?_)
  refine with_tabW ref_operation.tab3 ref_operation.bits3 (fun HT_ HW_ => ?_)
  refine pure_ (i := 0) (N := some 9) (v := ?_) (a' := ?_) #[true, false, false, false, false, false, false, false] rfl rfl (any_of HT_.out (by kernel_rfl)) (fun _ _ _ h => h) (Or.inl ⟨by rfl, ?_⟩) ?_ ?_
  rotate_left
  · intro w'
    go_simp
    with_reducible rfl
  rotate_left
  · simp only [Act.put, List.setIfInBounds_toArray, List.set_cons_zero, List.set_cons_succ, i64_w, i32_w]
    rfl
  refine pure_ (i := 3) (N := some 12) (v := ?_) (a' := ?_) #[true, false, false, true, false, false, false, false] rfl rfl (any_of HT_.out (by kernel_rfl)) (fun _ _ _ h => h) (Or.inl ⟨by rfl, ?_⟩) ?_ ?_
  rotate_left
  · intro w'
    go_simp
    with_reducible rfl
  rotate_left
  · simp only [Act.put, List.setIfInBounds_toArray, List.set_cons_zero, List.set_cons_succ, i64_w, i32_w]
    rfl
  refine take_ (i := 1) (N := some 10) (v := ?_) (a' := ?_) #[true, true, false, true, false, false, false, false] rfl rfl (take_ofW HT_.out HW_.out (by kernel_rfl)) (fun _ _ _ h => h) (Or.inl ⟨by rfl, ?_⟩) hHeld ?_ ?_
  rotate_left
  · rintro w' ⟨s0, s1⟩
    go_simp
    with_reducible rfl
  rotate_left
  · simp only [Act.put, List.setIfInBounds_toArray, List.set_cons_zero, List.set_cons_succ, i64_w, i32_w]
    rfl
  refine pure_ (i := 2) (N := some 11) (v := ?_) (a' := ?_) #[true, true, true, true, false, false, false, false] rfl rfl (any_of HT_.out (by kernel_rfl)) (fun _ _ _ h => h) (Or.inl ⟨by rfl, ?_⟩) ?_ ?_
  rotate_left
  · intro w'
    go_simp
    with_reducible rfl
  rotate_left
  · simp only [Act.put, List.setIfInBounds_toArray, List.set_cons_zero, List.set_cons_succ, i64_w, i32_w]
    rfl
  refine pure_ (i := 6) (N := some 4) (v := ?_) (a' := ?_) #[true, true, true, true, false, false, true, false] rfl rfl (any_of HT_.out (by kernel_rfl)) (fun _ _ _ h => h) (Or.inl ⟨by rfl, ?_⟩) ?_ ?_
  rotate_left
  · intro w'
    go_simp
    with_reducible rfl
  rotate_left
  · simp only [Act.put, List.setIfInBounds_toArray, List.set_cons_zero, List.set_cons_succ, i64_w, i32_w]
    rfl
  refine take_ (i := 4) (N := some 13) (v := ?_) (a' := ?_) #[true, true, true, true, true, false, true, false] rfl rfl (take_ofW HT_.out HW_.out (by kernel_rfl)) (fun _ _ _ h => h) (Or.inl ⟨by rfl, ?_⟩) hHeld ?_ ?_
  rotate_left
  · rintro w' ⟨s0, s1⟩
    go_simp
    with_reducible rfl
  rotate_left
  · simp only [Act.put, List.setIfInBounds_toArray, List.set_cons_zero, List.set_cons_succ, i64_w, i32_w]
    rfl
  refine pure_ (i := 5) (N := some 14) (v := ?_) (a' := ?_) #[true, true, true, true, true, true, true, false] rfl rfl (any_of HT_.out (by kernel_rfl)) (fun _ _ _ h => h) (Or.inl ⟨by rfl, ?_⟩) ?_ ?_
  rotate_left
  · intro w'
    go_simp
    with_reducible rfl
  rotate_left
  · simp only [Act.put, List.setIfInBounds_toArray, List.set_cons_zero, List.set_cons_succ, i64_w, i32_w]
    rfl
  refine pure_ (i := 7) (N := some 5) (v := ?_) (a' := ?_) #[true, true, true, true, true, true, true, true] rfl rfl (any_of HT_.out (by kernel_rfl)) (fun _ _ _ h => h) (Or.inl ⟨by rfl, ?_⟩) ?_ ?_
  rotate_left
  · intro w'
    go_simp
    with_reducible rfl
  rotate_left
  · simp only [Act.put, List.setIfInBounds_toArray, List.set_cons_zero, List.set_cons_succ, i64_w, i32_w]
    rfl
  refine done_ (done_of HT_.out (by kernel_rfl)) ?_
  
  go_upto_region 13 with (fail)
  have HW := Lib.hid (show (((W.setCell ⟨g, 5, none⟩ (.int .i64 (r.arm - 1))).setCell ⟨g, 6, none⟩ (.int .i64 (r.fail - 1))).drew).heap[g]? = some (.cells ({ r with arm := r.arm - 1, fail := r.fail - 1 } : RD).cells 53 (0, 0)) from blk_drew (blk_set (blk_set HD.out 5 (.int .i64 (r.arm - 1))) 6 (.int .i64 (r.fail - 1))))
  have HF := Lib.hid (show (((W.setCell ⟨g, 5, none⟩ (.int .i64 (r.arm - 1))).setCell ⟨g, 6, none⟩ (.int .i64 (r.fail - 1))).drew).heap[g + 1]? = some (.cells rz 53 (0, 0)) from blk_drew (blk_far (blk_far HZ.out HNe.out (.int .i64 (r.arm - 1))) HNe.out (.int .i64 (r.fail - 1))))
  have HBe := Lib.hid (show Below w.heap.size w (((W.setCell ⟨g, 5, none⟩ (.int .i64 (r.arm - 1))).setCell ⟨g, 6, none⟩ (.int .i64 (r.fail - 1))).drew) from ((HB.out.setCell (p := ⟨g, 5, none⟩) HG.out (.int .i64 (r.arm - 1))).setCell (p := ⟨g, 6, none⟩) HG.out (.int .i64 (r.fail - 1))).drew)
  generalize ((W.setCell ⟨g, 5, none⟩ (.int .i64 (r.arm - 1))).setCell ⟨g, 6, none⟩ (.int .i64 (r.fail - 1))).drew = W8 at HW HF HBe ⊢
  clear c4 c5 c6 z4 z5 z6 HX HD HZ HB
  go_wp2_with (first | (refine wl_load 53 (.tmp 1) rfl rfl _ _ rfl (rd_ld HW.out) ?_) | (refine wl_store (old := rz) (cells := ({ r with arm := r.arm - 1, fail := r.fail - 1 } : RD).cells) 53 (.tmp 2) (.tmp 36) rfl rfl rfl rfl HF.out infoRd rfl (by simp [Value.oneCell', RD.cells]) ?_))
  refine bodyPost_ret (results_ct rfl _ _ (g + 1) 53 ({ r with arm := r.arm - 1, fail := r.fail - 1 } : RD).cells (0, 0) _ rfl (setRow_heap _ _ _ _ _ _ HF.out) Try.underlying53 rfl infoRd) rfl ?_
  exact ⟨rfl, below_setRow HBe.out (by have := HG.out; omega) _⟩

end Go.Proofs.Ytfggcdpipolahaa.PF
