/- Files behind an operation. -/
import Derived.Test.YtfggcdpipolahaaFiStop
import Derived.Test.YtfggcdpipolahaaFiCat
import Derived.Test.YtfggcdpipolahaaWhole
set_option linter.unusedVariables false
set_option linter.unusedSimpArgs false
namespace Go.Proofs.Ytfggcdpipolahaa.PF
open Go.RowKit Go.Proofs.YtfggcdpipolahaaW.PrintWords Go.Proofs.YtfggcdpipolahaaW.PrintLast Go.Proofs.YtfggcdpipolahaaW.PrintMore
attribute [local go_sem] max2_int min2_int max_two min_two
theorem infoFs : (Try.prog.info? 61).map (·.size) = some 3 := by kernel_rfl
def file_done.T2 : Bool × List (List Nat × List Nat) := (true, [([], []), ([0], [0]), ([], []), ([2], [2]), ([3], [3]), ([4], [4]), ([], []), ([6], [6]), ([5, 7], [5, 7]), ([1, 0, 1, 2, 3, 4, 5, 6, 7, 8], [1]), ([9, 8, 0, 1, 2, 3, 4, 5, 6, 7, 8], [8, 9])])
def file_done.B2 : List Nat := [0, 1, 0, 4, 12, 28, 0, 64, 252, 511, 1023]
theorem file_done.tab2 : rtab .any (opsOf Try.f35 2) = file_done.T2 := by kernel_rfl
theorem file_done.bits2 : waitsOk file_done.T2.2 file_done.B2 = true := by kernel_rfl
set_option maxRecDepth 100000 in
set_option maxHeartbeats 4000000 in
theorem done_cut0 (s0 s1 s2 : Sl) (n : Nat) (hn : n ≤ s0.2.2) (D : Sl) (torn : Int) (w : World) :
    Calls Try.prog 35 #[.agg #[.slice s0.1 s0.2.1 s0.2.2, .slice s1.1 s1.2.1 s1.2.2, .slice s2.1 s2.2.1 s2.2.2], .agg #[.int .i64 0, .bool true, .int .i64 n, .slice D.1 D.2.1 D.2.2], .int .i64 torn] w fun e w' => e = .returned (.agg #[.slice s0.1 n s0.2.2, .slice s1.1 s1.2.1 s1.2.2, .slice s2.1 s2.2.1 s2.2.2]) ∧ Below w.heap.size w w' := by
  obtain ⟨i0, hi, _, hz1, _⟩ := info_parts Low.info8
  have hcut := Low.cut_h (P := Try.prog) 24 5 Try.underlying24 hi hz1 s0.1 s0.2.1 s0.2.2 n hn
  go_enter Try.func35, Try.ntmps35
  go_upto_region 2 with (fail)
  generalize hWD : ((w.alloc (.cells _ 61)).alloc (.cells _ 77)).alloc (.cells _ 61) = WD
  obtain ⟨b3, hb3⟩ : ∃ b, b = w.heap.size := ⟨_, rfl⟩
  rw [← hb3]
  have HB := Lib.hid (show Below w.heap.size w WD by rw [← hWD]; exact below_alloc (below_alloc (below_alloc (Below.refl _ _) _) _) _)
  have HF : Hid (WD.heap[b3]? = some (.cells #[.slice s0.1 s0.2.1 s0.2.2, .slice s1.1 s1.2.1 s1.2.2, .slice s2.1 s2.2.1 s2.2.2] 61 (0, 0))) := Lib.hid (by rw [← hWD, hb3]; exact blk_alloc (blk_alloc (blk_new _ _) _) _)
  have HO : Hid (WD.heap[b3 + 1]? = some (.cells #[.int .i64 0, .bool true, .int .i64 n, .slice D.1 D.2.1 D.2.2] 77 (0, 0))) := Lib.hid (by rw [← hWD, hb3, ← World.size_alloc w (.cells #[.slice s0.1 s0.2.1 s0.2.2, .slice s1.1 s1.2.1 s1.2.2, .slice s2.1 s2.2.1 s2.2.2] 61)]; exact blk_alloc (blk_new _ _) _)
  have HR6 : Hid (WD.heap[b3 + 1 + 1]? = some (.cells #[.slice none 0 0, .slice none 0 0, .slice none 0 0] 61 (0, 0))) := Lib.hid (by
    have e : ∀ x y : Obj, ((w.alloc x).alloc y).heap.size = w.heap.size + 1 + 1 := fun x y => by simp only [World.size_alloc]
    rw [← hWD, hb3, ← e]
    exact blk_new _ _)
  have HX4 := Lib.hid (show WD.drew.cell? ⟨b3 + 1, 0, none⟩ = some (.int .i64 0) ∧ WD.drew.cell? ⟨b3 + 1, 2, none⟩ = some (.int .i64 n) ∧ WD.drew.cell? ⟨b3, 0, none⟩ = some (.slice s0.1 s0.2.1 s0.2.2) from ⟨(blk_cell (blk_drew HO.out) 0).trans rfl, (blk_cell (blk_drew HO.out) 2).trans rfl, (blk_cell (blk_drew HF.out) 0).trans rfl⟩)
  have HG := Lib.hid (show w.heap.size ≤ b3 by omega)
  clear hWD hb3
  have z3 : WD.frozen? ⟨b3, 0, none⟩ = false := blk_frozen HF.out 0
  refine start_ (n := 11) (S := fun w' => w'.cell? ⟨b3 + 1, 0, none⟩ = some (.int .i64 0) ∧ w'.cell? ⟨b3 + 1, 2, none⟩ = some (.int .i64 n) ∧ w'.cell? ⟨b3, 0, none⟩ = some (.slice s0.1 s0.2.1 s0.2.2)) (ds := [10]) #[false, false, false, false, false, false, false, false, false, false, false] (by kernel_rfl) rfl rfl ⟨HX4.out.1, HX4.out.2.1, HX4.out.2.2⟩ (fun hHeld => ?_)
  refine with_tabW file_done.tab2 file_done.bits2 (fun HT_ HW_ => ?_)
  refine pure_ (i := 0) (N := some 9) (v := ?_) (a' := ?_) #[true, false, false, false, false, false, false, false, false, false, false] rfl rfl (any_of HT_.out (by kernel_rfl)) (fun _ _ _ h => h) (Or.inl ⟨by rfl, ?_⟩) ?_ ?_
  rotate_left
  · intro w'
    go_simp
    with_reducible rfl
  rotate_left
  · simp only [Act.put, List.setIfInBounds_toArray, List.set_cons_zero, List.set_cons_succ, i64_w, i32_w]
    rfl
  refine pure_ (i := 2) (N := some 11) (v := ?_) (a' := ?_) #[true, false, true, false, false, false, false, false, false, false, false] rfl rfl (any_of HT_.out (by kernel_rfl)) (fun _ _ _ h => h) (Or.inl ⟨by rfl, ?_⟩) ?_ ?_
  rotate_left
  · intro w'
    go_simp
    with_reducible rfl
  rotate_left
  · simp only [Act.put, List.setIfInBounds_toArray, List.set_cons_zero, List.set_cons_succ, i64_w, i32_w]
    rfl
  refine pure_ (i := 6) (N := some 15) (v := ?_) (a' := ?_) #[true, false, true, false, false, false, true, false, false, false, false] rfl rfl (any_of HT_.out (by kernel_rfl)) (fun _ _ _ h => h) (Or.inl ⟨by rfl, ?_⟩) ?_ ?_
  rotate_left
  · intro w'
    go_simp
    with_reducible rfl
  rotate_left
  · simp only [Act.put, List.setIfInBounds_toArray, List.set_cons_zero, List.set_cons_succ, i64_w, i32_w]
    rfl
  refine take_ (i := 1) (N := some 10) (v := ?_) (a' := ?_) #[true, true, true, false, false, false, true, false, false, false, false] rfl rfl (take_ofW HT_.out HW_.out (by kernel_rfl)) (fun _ _ _ h => h) (Or.inl ⟨by rfl, ?_⟩) hHeld ?_ ?_
  rotate_left
  · rintro w' ⟨s0, s1, s2⟩
    go_simp
    with_reducible rfl
  rotate_left
  · simp only [Act.put, List.setIfInBounds_toArray, List.set_cons_zero, List.set_cons_succ, i64_w, i32_w]
    rfl
  refine take_ (i := 3) (N := some 12) (v := ?_) (a' := ?_) #[true, true, true, true, false, false, true, false, false, false, false] rfl rfl (take_ofW HT_.out HW_.out (by kernel_rfl)) (fun _ _ _ h => h) (Or.inl ⟨by rfl, ?_⟩) hHeld ?_ ?_
  rotate_left
  · rintro w' ⟨s0, s1, s2⟩
    go_simp
    with_reducible rfl
  rotate_left
  · simp only [Act.put, List.setIfInBounds_toArray, List.set_cons_zero, List.set_cons_succ, i64_w, i32_w]
    rfl
  refine pure_ (i := 4) (N := some 13) (v := ?_) (a' := ?_) #[true, true, true, true, true, false, true, false, false, false, false] rfl rfl (any_of HT_.out (by kernel_rfl)) (fun _ _ _ h => h) (Or.inl ⟨by rfl, ?_⟩) ?_ ?_
  rotate_left
  · intro w'
    go_simp
    with_reducible rfl
  rotate_left
  · simp only [Act.put, List.setIfInBounds_toArray, List.set_cons_zero, List.set_cons_succ, i64_w, i32_w]
    rfl
  refine take_ (i := 5) (N := some 14) (v := ?_) (a' := ?_) #[true, true, true, true, true, true, true, false, false, false, false] rfl rfl (take_ofW HT_.out HW_.out (by kernel_rfl)) (fun _ _ _ h => h) (Or.inl ⟨by rfl, ?_⟩) hHeld ?_ ?_
  rotate_left
  · rintro w' ⟨s0, s1, s2⟩
    go_simp
    with_reducible rfl
  rotate_left
  · simp only [Act.put, List.setIfInBounds_toArray, List.set_cons_zero, List.set_cons_succ, i64_w, i32_w]
    rfl
  refine take_ (i := 7) (N := some 16) (v := ?_) (a' := ?_) #[true, true, true, true, true, true, true, true, false, false, false] rfl rfl (take_ofW HT_.out HW_.out (by kernel_rfl)) (fun _ _ _ h => h) (Or.inl ⟨by rfl, ?_⟩) hHeld ?_ ?_
  rotate_left
  · rintro w' ⟨s0, s1, s2⟩
    go_simp
    with_reducible rfl
  rotate_left
  · simp only [Act.put, List.setIfInBounds_toArray, List.set_cons_zero, List.set_cons_succ, i64_w, i32_w]
    rfl
  refine pure_ (i := 8) (N := some 17) (v := ?_) (a' := ?_) #[true, true, true, true, true, true, true, true, true, false, false] rfl rfl (any_of HT_.out (by kernel_rfl)) (fun _ _ _ h => h) (Or.inl ⟨by rfl, ?_⟩) ?_ ?_
  rotate_left
  · intro w'
    go_simp
    with_reducible rfl
  rotate_left
  · simp only [Act.put, List.setIfInBounds_toArray, List.set_cons_zero, List.set_cons_succ, i64_w, i32_w]
    rfl
  refine pure_ (i := 9) (N := some 18) (v := ?_) (a' := ?_) #[true, true, true, true, true, true, true, true, true, true, false] rfl rfl (any_of HT_.out (by kernel_rfl)) (fun _ _ _ h => h) (Or.inl ⟨by rfl, ?_⟩) ?_ ?_
  rotate_left
  · intro w'
    go_simp
    with_reducible rfl
  rotate_left
  · simp only [Act.put, List.setIfInBounds_toArray, List.set_cons_zero, List.set_cons_succ, i64_w, i32_w]
    rfl
  refine last_ (i := 10) (N := none) #[true, true, true, true, true, true, true, true, true, true, true] rfl rfl (one_of HT_.out (by kernel_rfl)) (by decide) (fun K hK => ?_)
  refine skip_ (w1 := ?_) (by rfl) rfl ?_ ?_
  rotate_left
  · go_simp
    rfl
  refine hK.out _ _ ?_
  clear hK K
  refine done_ (done_of HT_.out (by kernel_rfl)) ?_
  
  generalize hW5 : WD.setCell ⟨b3, 0, none⟩ (.slice s0.1 n s0.2.2) = W5
  have HF5 : Hid (W5.heap[b3]? = some (.cells #[.slice s0.1 n s0.2.2, .slice s1.1 s1.2.1 s1.2.2, .slice s2.1 s2.2.1 s2.2.2] 61 (0, 0))) := Lib.hid (by rw [← hW5]; exact blk_set HF.out 0 _)
  have HR5 : Hid (W5.heap[b3 + 1 + 1]? = some (.cells #[.slice none 0 0, .slice none 0 0, .slice none 0 0] 61 (0, 0))) := Lib.hid (by rw [← hW5]; exact blk_far HR6.out (by show b3 + 1 + 1 ≠ b3; omega) _)
  have HB5 : Hid (Below w.heap.size w W5) := Lib.hid (by rw [← hW5]; exact HB.out.setCell HG.out _)
  clear hW5 z3 HX4
  have hld := run_loadVar_row (P := Try.prog) W5.drew b3 61 61 #[.slice s0.1 n s0.2.2, .slice s1.1 s1.2.1 s1.2.2, .slice s2.1 s2.2.1 s2.2.2] (0, 0) _ (blk_drew HF5.out) Try.underlying61 rfl infoFs
  have HL : Hid ((Instr.loadAt 61 (.pointer (some ⟨b3, 0, none⟩))).run Try.prog W5.drew = .ok (.agg #[.slice s0.1 n s0.2.2, .slice s1.1 s1.2.1 s1.2.2, .slice s2.1 s2.2.1 s2.2.2]) W5.drew) := Lib.hid (by simp only [Instr.loadAt, Instr.sureAddr, Sem.run_bind, Sem.run_pure, Result.andThen_ok, hld])
  clear hld
  go_wp2_with (first | (refine wl_load 61 (.tmp 3) rfl rfl _ _ rfl HL.out ?_) | (refine wl_store 61 (.tmp 6) (.tmp 19) rfl rfl rfl rfl (blk_drew HR5.out) infoFs rfl (by simp [Value.oneCell']) ?_))
  refine bodyPost_ret (results_cell_row rfl _ _ (b3 + 1 + 1) 61 _ (0, 0) _ rfl (setRow_heap _ _ _ _ _ _ (blk_drew HR5.out)) Try.underlying61 rfl infoFs) rfl ?_
  exact ⟨rfl, below_setRow (below_drew1 HB5.out) (Nat.le_trans HG.out (by omega)) _⟩
set_option maxRecDepth 100000 in
set_option maxHeartbeats 4000000 in
theorem done_cut1 (s0 s1 s2 : Sl) (n : Nat) (hn : n ≤ s1.2.2) (D : Sl) (torn : Int) (w : World) :
    Calls Try.prog 35 #[.agg #[.slice s0.1 s0.2.1 s0.2.2, .slice s1.1 s1.2.1 s1.2.2, .slice s2.1 s2.2.1 s2.2.2], .agg #[.int .i64 1, .bool true, .int .i64 n, .slice D.1 D.2.1 D.2.2], .int .i64 torn] w fun e w' => e = .returned (.agg #[.slice s0.1 s0.2.1 s0.2.2, .slice s1.1 n s1.2.2, .slice s2.1 s2.2.1 s2.2.2]) ∧ Below w.heap.size w w' := by
  obtain ⟨i0, hi, _, hz1, _⟩ := info_parts Low.info8
  have hcut := Low.cut_h (P := Try.prog) 24 5 Try.underlying24 hi hz1 s1.1 s1.2.1 s1.2.2 n hn
  go_enter Try.func35, Try.ntmps35
  go_upto_region 2 with (fail)
  generalize hWD : ((w.alloc (.cells _ 61)).alloc (.cells _ 77)).alloc (.cells _ 61) = WD
  obtain ⟨b3, hb3⟩ : ∃ b, b = w.heap.size := ⟨_, rfl⟩
  rw [← hb3]
  have HB := Lib.hid (show Below w.heap.size w WD by rw [← hWD]; exact below_alloc (below_alloc (below_alloc (Below.refl _ _) _) _) _)
  have HF : Hid (WD.heap[b3]? = some (.cells #[.slice s0.1 s0.2.1 s0.2.2, .slice s1.1 s1.2.1 s1.2.2, .slice s2.1 s2.2.1 s2.2.2] 61 (0, 0))) := Lib.hid (by rw [← hWD, hb3]; exact blk_alloc (blk_alloc (blk_new _ _) _) _)
  have HO : Hid (WD.heap[b3 + 1]? = some (.cells #[.int .i64 1, .bool true, .int .i64 n, .slice D.1 D.2.1 D.2.2] 77 (0, 0))) := Lib.hid (by rw [← hWD, hb3, ← World.size_alloc w (.cells #[.slice s0.1 s0.2.1 s0.2.2, .slice s1.1 s1.2.1 s1.2.2, .slice s2.1 s2.2.1 s2.2.2] 61)]; exact blk_alloc (blk_new _ _) _)
  have HR6 : Hid (WD.heap[b3 + 1 + 1]? = some (.cells #[.slice none 0 0, .slice none 0 0, .slice none 0 0] 61 (0, 0))) := Lib.hid (by
    have e : ∀ x y : Obj, ((w.alloc x).alloc y).heap.size = w.heap.size + 1 + 1 := fun x y => by simp only [World.size_alloc]
    rw [← hWD, hb3, ← e]
    exact blk_new _ _)
  have HX4 := Lib.hid (show WD.drew.cell? ⟨b3 + 1, 0, none⟩ = some (.int .i64 1) ∧ WD.drew.cell? ⟨b3 + 1, 2, none⟩ = some (.int .i64 n) ∧ WD.drew.cell? ⟨b3, 1, none⟩ = some (.slice s1.1 s1.2.1 s1.2.2) from ⟨(blk_cell (blk_drew HO.out) 0).trans rfl, (blk_cell (blk_drew HO.out) 2).trans rfl, (blk_cell (blk_drew HF.out) 1).trans rfl⟩)
  have HG := Lib.hid (show w.heap.size ≤ b3 by omega)
  clear hWD hb3
  have z3 : WD.frozen? ⟨b3, 1, none⟩ = false := blk_frozen HF.out 1
  refine start_ (n := 11) (S := fun w' => w'.cell? ⟨b3 + 1, 0, none⟩ = some (.int .i64 1) ∧ w'.cell? ⟨b3 + 1, 2, none⟩ = some (.int .i64 n) ∧ w'.cell? ⟨b3, 1, none⟩ = some (.slice s1.1 s1.2.1 s1.2.2)) (ds := [10]) #[false, false, false, false, false, false, false, false, false, false, false] (by kernel_rfl) rfl rfl ⟨HX4.out.1, HX4.out.2.1, HX4.out.2.2⟩ (fun hHeld => ?_)
  refine with_tabW file_done.tab2 file_done.bits2 (fun HT_ HW_ => ?_)
  refine pure_ (i := 0) (N := some 9) (v := ?_) (a' := ?_) #[true, false, false, false, false, false, false, false, false, false, false] rfl rfl (any_of HT_.out (by kernel_rfl)) (fun _ _ _ h => h) (Or.inl ⟨by rfl, ?_⟩) ?_ ?_
  rotate_left
  · intro w'
    go_simp
    with_reducible rfl
  rotate_left
  · simp only [Act.put, List.setIfInBounds_toArray, List.set_cons_zero, List.set_cons_succ, i64_w, i32_w]
    rfl
  refine pure_ (i := 2) (N := some 11) (v := ?_) (a' := ?_) #[true, false, true, false, false, false, false, false, false, false, false] rfl rfl (any_of HT_.out (by kernel_rfl)) (fun _ _ _ h => h) (Or.inl ⟨by rfl, ?_⟩) ?_ ?_
  rotate_left
  · intro w'
    go_simp
    with_reducible rfl
  rotate_left
  · simp only [Act.put, List.setIfInBounds_toArray, List.set_cons_zero, List.set_cons_succ, i64_w, i32_w]
    rfl
  refine pure_ (i := 6) (N := some 15) (v := ?_) (a' := ?_) #[true, false, true, false, false, false, true, false, false, false, false] rfl rfl (any_of HT_.out (by kernel_rfl)) (fun _ _ _ h => h) (Or.inl ⟨by rfl, ?_⟩) ?_ ?_
  rotate_left
  · intro w'
    go_simp
    with_reducible rfl
  rotate_left
  · simp only [Act.put, List.setIfInBounds_toArray, List.set_cons_zero, List.set_cons_succ, i64_w, i32_w]
    rfl
  refine take_ (i := 1) (N := some 10) (v := ?_) (a' := ?_) #[true, true, true, false, false, false, true, false, false, false, false] rfl rfl (take_ofW HT_.out HW_.out (by kernel_rfl)) (fun _ _ _ h => h) (Or.inl ⟨by rfl, ?_⟩) hHeld ?_ ?_
  rotate_left
  · rintro w' ⟨s0, s1, s2⟩
    go_simp
    with_reducible rfl
  rotate_left
  · simp only [Act.put, List.setIfInBounds_toArray, List.set_cons_zero, List.set_cons_succ, i64_w, i32_w]
    rfl
  refine take_ (i := 3) (N := some 12) (v := ?_) (a' := ?_) #[true, true, true, true, false, false, true, false, false, false, false] rfl rfl (take_ofW HT_.out HW_.out (by kernel_rfl)) (fun _ _ _ h => h) (Or.inl ⟨by rfl, ?_⟩) hHeld ?_ ?_
  rotate_left
  · rintro w' ⟨s0, s1, s2⟩
    go_simp
    with_reducible rfl
  rotate_left
  · simp only [Act.put, List.setIfInBounds_toArray, List.set_cons_zero, List.set_cons_succ, i64_w, i32_w]
    rfl
  refine pure_ (i := 4) (N := some 13) (v := ?_) (a' := ?_) #[true, true, true, true, true, false, true, false, false, false, false] rfl rfl (any_of HT_.out (by kernel_rfl)) (fun _ _ _ h => h) (Or.inl ⟨by rfl, ?_⟩) ?_ ?_
  rotate_left
  · intro w'
    go_simp
    with_reducible rfl
  rotate_left
  · simp only [Act.put, List.setIfInBounds_toArray, List.set_cons_zero, List.set_cons_succ, i64_w, i32_w]
    rfl
  refine take_ (i := 5) (N := some 14) (v := ?_) (a' := ?_) #[true, true, true, true, true, true, true, false, false, false, false] rfl rfl (take_ofW HT_.out HW_.out (by kernel_rfl)) (fun _ _ _ h => h) (Or.inl ⟨by rfl, ?_⟩) hHeld ?_ ?_
  rotate_left
  · rintro w' ⟨s0, s1, s2⟩
    go_simp
    with_reducible rfl
  rotate_left
  · simp only [Act.put, List.setIfInBounds_toArray, List.set_cons_zero, List.set_cons_succ, i64_w, i32_w]
    rfl
  refine take_ (i := 7) (N := some 16) (v := ?_) (a' := ?_) #[true, true, true, true, true, true, true, true, false, false, false] rfl rfl (take_ofW HT_.out HW_.out (by kernel_rfl)) (fun _ _ _ h => h) (Or.inl ⟨by rfl, ?_⟩) hHeld ?_ ?_
  rotate_left
  · rintro w' ⟨s0, s1, s2⟩
    go_simp
    with_reducible rfl
  rotate_left
  · simp only [Act.put, List.setIfInBounds_toArray, List.set_cons_zero, List.set_cons_succ, i64_w, i32_w]
    rfl
  refine pure_ (i := 8) (N := some 17) (v := ?_) (a' := ?_) #[true, true, true, true, true, true, true, true, true, false, false] rfl rfl (any_of HT_.out (by kernel_rfl)) (fun _ _ _ h => h) (Or.inl ⟨by rfl, ?_⟩) ?_ ?_
  rotate_left
  · intro w'
    go_simp
    with_reducible rfl
  rotate_left
  · simp only [Act.put, List.setIfInBounds_toArray, List.set_cons_zero, List.set_cons_succ, i64_w, i32_w]
    rfl
  refine pure_ (i := 9) (N := some 18) (v := ?_) (a' := ?_) #[true, true, true, true, true, true, true, true, true, true, false] rfl rfl (any_of HT_.out (by kernel_rfl)) (fun _ _ _ h => h) (Or.inl ⟨by rfl, ?_⟩) ?_ ?_
  rotate_left
  · intro w'
    go_simp
    with_reducible rfl
  rotate_left
  · simp only [Act.put, List.setIfInBounds_toArray, List.set_cons_zero, List.set_cons_succ, i64_w, i32_w]
    rfl
  refine last_ (i := 10) (N := none) #[true, true, true, true, true, true, true, true, true, true, true] rfl rfl (one_of HT_.out (by kernel_rfl)) (by decide) (fun K hK => ?_)
  refine skip_ (w1 := ?_) (by rfl) rfl ?_ ?_
  rotate_left
  · go_simp
    rfl
  refine hK.out _ _ ?_
  clear hK K
  refine done_ (done_of HT_.out (by kernel_rfl)) ?_
  
  generalize hW5 : WD.setCell ⟨b3, 1, none⟩ (.slice s1.1 n s1.2.2) = W5
  have HF5 : Hid (W5.heap[b3]? = some (.cells #[.slice s0.1 s0.2.1 s0.2.2, .slice s1.1 n s1.2.2, .slice s2.1 s2.2.1 s2.2.2] 61 (0, 0))) := Lib.hid (by rw [← hW5]; exact blk_set HF.out 1 _)
  have HR5 : Hid (W5.heap[b3 + 1 + 1]? = some (.cells #[.slice none 0 0, .slice none 0 0, .slice none 0 0] 61 (0, 0))) := Lib.hid (by rw [← hW5]; exact blk_far HR6.out (by show b3 + 1 + 1 ≠ b3; omega) _)
  have HB5 : Hid (Below w.heap.size w W5) := Lib.hid (by rw [← hW5]; exact HB.out.setCell HG.out _)
  clear hW5 z3 HX4
  have hld := run_loadVar_row (P := Try.prog) W5.drew b3 61 61 #[.slice s0.1 s0.2.1 s0.2.2, .slice s1.1 n s1.2.2, .slice s2.1 s2.2.1 s2.2.2] (0, 0) _ (blk_drew HF5.out) Try.underlying61 rfl infoFs
  have HL : Hid ((Instr.loadAt 61 (.pointer (some ⟨b3, 0, none⟩))).run Try.prog W5.drew = .ok (.agg #[.slice s0.1 s0.2.1 s0.2.2, .slice s1.1 n s1.2.2, .slice s2.1 s2.2.1 s2.2.2]) W5.drew) := Lib.hid (by simp only [Instr.loadAt, Instr.sureAddr, Sem.run_bind, Sem.run_pure, Result.andThen_ok, hld])
  clear hld
  go_wp2_with (first | (refine wl_load 61 (.tmp 3) rfl rfl _ _ rfl HL.out ?_) | (refine wl_store 61 (.tmp 6) (.tmp 19) rfl rfl rfl rfl (blk_drew HR5.out) infoFs rfl (by simp [Value.oneCell']) ?_))
  refine bodyPost_ret (results_cell_row rfl _ _ (b3 + 1 + 1) 61 _ (0, 0) _ rfl (setRow_heap _ _ _ _ _ _ (blk_drew HR5.out)) Try.underlying61 rfl infoFs) rfl ?_
  exact ⟨rfl, below_setRow (below_drew1 HB5.out) (Nat.le_trans HG.out (by omega)) _⟩
set_option maxRecDepth 100000 in
set_option maxHeartbeats 4000000 in
theorem done_cut2 (s0 s1 s2 : Sl) (n : Nat) (hn : n ≤ s2.2.2) (D : Sl) (torn : Int) (w : World) :
    Calls Try.prog 35 #[.agg #[.slice s0.1 s0.2.1 s0.2.2, .slice s1.1 s1.2.1 s1.2.2, .slice s2.1 s2.2.1 s2.2.2], .agg #[.int .i64 2, .bool true, .int .i64 n, .slice D.1 D.2.1 D.2.2], .int .i64 torn] w fun e w' => e = .returned (.agg #[.slice s0.1 s0.2.1 s0.2.2, .slice s1.1 s1.2.1 s1.2.2, .slice s2.1 n s2.2.2]) ∧ Below w.heap.size w w' := by
  obtain ⟨i0, hi, _, hz1, _⟩ := info_parts Low.info8
  have hcut := Low.cut_h (P := Try.prog) 24 5 Try.underlying24 hi hz1 s2.1 s2.2.1 s2.2.2 n hn
  go_enter Try.func35, Try.ntmps35
  go_upto_region 2 with (fail)
  generalize hWD : ((w.alloc (.cells _ 61)).alloc (.cells _ 77)).alloc (.cells _ 61) = WD
  obtain ⟨b3, hb3⟩ : ∃ b, b = w.heap.size := ⟨_, rfl⟩
  rw [← hb3]
  have HB := Lib.hid (show Below w.heap.size w WD by rw [← hWD]; exact below_alloc (below_alloc (below_alloc (Below.refl _ _) _) _) _)
  have HF : Hid (WD.heap[b3]? = some (.cells #[.slice s0.1 s0.2.1 s0.2.2, .slice s1.1 s1.2.1 s1.2.2, .slice s2.1 s2.2.1 s2.2.2] 61 (0, 0))) := Lib.hid (by rw [← hWD, hb3]; exact blk_alloc (blk_alloc (blk_new _ _) _) _)
  have HO : Hid (WD.heap[b3 + 1]? = some (.cells #[.int .i64 2, .bool true, .int .i64 n, .slice D.1 D.2.1 D.2.2] 77 (0, 0))) := Lib.hid (by rw [← hWD, hb3, ← World.size_alloc w (.cells #[.slice s0.1 s0.2.1 s0.2.2, .slice s1.1 s1.2.1 s1.2.2, .slice s2.1 s2.2.1 s2.2.2] 61)]; exact blk_alloc (blk_new _ _) _)
  have HR6 : Hid (WD.heap[b3 + 1 + 1]? = some (.cells #[.slice none 0 0, .slice none 0 0, .slice none 0 0] 61 (0, 0))) := Lib.hid (by
    have e : ∀ x y : Obj, ((w.alloc x).alloc y).heap.size = w.heap.size + 1 + 1 := fun x y => by simp only [World.size_alloc]
    rw [← hWD, hb3, ← e]
    exact blk_new _ _)
  have HX4 := Lib.hid (show WD.drew.cell? ⟨b3 + 1, 0, none⟩ = some (.int .i64 2) ∧ WD.drew.cell? ⟨b3 + 1, 2, none⟩ = some (.int .i64 n) ∧ WD.drew.cell? ⟨b3, 2, none⟩ = some (.slice s2.1 s2.2.1 s2.2.2) from ⟨(blk_cell (blk_drew HO.out) 0).trans rfl, (blk_cell (blk_drew HO.out) 2).trans rfl, (blk_cell (blk_drew HF.out) 2).trans rfl⟩)
  have HG := Lib.hid (show w.heap.size ≤ b3 by omega)
  clear hWD hb3
  have z3 : WD.frozen? ⟨b3, 2, none⟩ = false := blk_frozen HF.out 2
  refine start_ (n := 11) (S := fun w' => w'.cell? ⟨b3 + 1, 0, none⟩ = some (.int .i64 2) ∧ w'.cell? ⟨b3 + 1, 2, none⟩ = some (.int .i64 n) ∧ w'.cell? ⟨b3, 2, none⟩ = some (.slice s2.1 s2.2.1 s2.2.2)) (ds := [10]) #[false, false, false, false, false, false, false, false, false, false, false] (by kernel_rfl) rfl rfl ⟨HX4.out.1, HX4.out.2.1, HX4.out.2.2⟩ (fun hHeld => ?_)
  refine with_tabW file_done.tab2 file_done.bits2 (fun HT_ HW_ => ?_)
  refine pure_ (i := 0) (N := some 9) (v := ?_) (a' := ?_) #[true, false, false, false, false, false, false, false, false, false, false] rfl rfl (any_of HT_.out (by kernel_rfl)) (fun _ _ _ h => h) (Or.inl ⟨by rfl, ?_⟩) ?_ ?_
  rotate_left
  · intro w'
    go_simp
    with_reducible rfl
  rotate_left
  · simp only [Act.put, List.setIfInBounds_toArray, List.set_cons_zero, List.set_cons_succ, i64_w, i32_w]
    rfl
  refine pure_ (i := 2) (N := some 11) (v := ?_) (a' := ?_) #[true, false, true, false, false, false, false, false, false, false, false] rfl rfl (any_of HT_.out (by kernel_rfl)) (fun _ _ _ h => h) (Or.inl ⟨by rfl, ?_⟩) ?_ ?_
  rotate_left
  · intro w'
    go_simp
    with_reducible rfl
  rotate_left
  · simp only [Act.put, List.setIfInBounds_toArray, List.set_cons_zero, List.set_cons_succ, i64_w, i32_w]
    rfl
  refine pure_ (i := 6) (N := some 15) (v := ?_) (a' := ?_) #[true, false, true, false, false, false, true, false, false, false, false] rfl rfl (any_of HT_.out (by kernel_rfl)) (fun _ _ _ h => h) (Or.inl ⟨by rfl, ?_⟩) ?_ ?_
  rotate_left
  · intro w'
    go_simp
    with_reducible rfl
  rotate_left
  · simp only [Act.put, List.setIfInBounds_toArray, List.set_cons_zero, List.set_cons_succ, i64_w, i32_w]
    rfl
  refine take_ (i := 1) (N := some 10) (v := ?_) (a' := ?_) #[true, true, true, false, false, false, true, false, false, false, false] rfl rfl (take_ofW HT_.out HW_.out (by kernel_rfl)) (fun _ _ _ h => h) (Or.inl ⟨by rfl, ?_⟩) hHeld ?_ ?_
  rotate_left
  · rintro w' ⟨s0, s1, s2⟩
    go_simp
    with_reducible rfl
  rotate_left
  · simp only [Act.put, List.setIfInBounds_toArray, List.set_cons_zero, List.set_cons_succ, i64_w, i32_w]
    rfl
  refine take_ (i := 3) (N := some 12) (v := ?_) (a' := ?_) #[true, true, true, true, false, false, true, false, false, false, false] rfl rfl (take_ofW HT_.out HW_.out (by kernel_rfl)) (fun _ _ _ h => h) (Or.inl ⟨by rfl, ?_⟩) hHeld ?_ ?_
  rotate_left
  · rintro w' ⟨s0, s1, s2⟩
    go_simp
    with_reducible rfl
  rotate_left
  · simp only [Act.put, List.setIfInBounds_toArray, List.set_cons_zero, List.set_cons_succ, i64_w, i32_w]
    rfl
  refine pure_ (i := 4) (N := some 13) (v := ?_) (a' := ?_) #[true, true, true, true, true, false, true, false, false, false, false] rfl rfl (any_of HT_.out (by kernel_rfl)) (fun _ _ _ h => h) (Or.inl ⟨by rfl, ?_⟩) ?_ ?_
  rotate_left
  · intro w'
    go_simp
    with_reducible rfl
  rotate_left
  · simp only [Act.put, List.setIfInBounds_toArray, List.set_cons_zero, List.set_cons_succ, i64_w, i32_w]
    rfl
  refine take_ (i := 5) (N := some 14) (v := ?_) (a' := ?_) #[true, true, true, true, true, true, true, false, false, false, false] rfl rfl (take_ofW HT_.out HW_.out (by kernel_rfl)) (fun _ _ _ h => h) (Or.inl ⟨by rfl, ?_⟩) hHeld ?_ ?_
  rotate_left
  · rintro w' ⟨s0, s1, s2⟩
    go_simp
    with_reducible rfl
  rotate_left
  · simp only [Act.put, List.setIfInBounds_toArray, List.set_cons_zero, List.set_cons_succ, i64_w, i32_w]
    rfl
  refine take_ (i := 7) (N := some 16) (v := ?_) (a' := ?_) #[true, true, true, true, true, true, true, true, false, false, false] rfl rfl (take_ofW HT_.out HW_.out (by kernel_rfl)) (fun _ _ _ h => h) (Or.inl ⟨by rfl, ?_⟩) hHeld ?_ ?_
  rotate_left
  · rintro w' ⟨s0, s1, s2⟩
    go_simp
    with_reducible rfl
  rotate_left
  · simp only [Act.put, List.setIfInBounds_toArray, List.set_cons_zero, List.set_cons_succ, i64_w, i32_w]
    rfl
  refine pure_ (i := 8) (N := some 17) (v := ?_) (a' := ?_) #[true, true, true, true, true, true, true, true, true, false, false] rfl rfl (any_of HT_.out (by kernel_rfl)) (fun _ _ _ h => h) (Or.inl ⟨by rfl, ?_⟩) ?_ ?_
  rotate_left
  · intro w'
    go_simp
    with_reducible rfl
  rotate_left
  · simp only [Act.put, List.setIfInBounds_toArray, List.set_cons_zero, List.set_cons_succ, i64_w, i32_w]
    rfl
  refine pure_ (i := 9) (N := some 18) (v := ?_) (a' := ?_) #[true, true, true, true, true, true, true, true, true, true, false] rfl rfl (any_of HT_.out (by kernel_rfl)) (fun _ _ _ h => h) (Or.inl ⟨by rfl, ?_⟩) ?_ ?_
  rotate_left
  · intro w'
    go_simp
    with_reducible rfl
  rotate_left
  · simp only [Act.put, List.setIfInBounds_toArray, List.set_cons_zero, List.set_cons_succ, i64_w, i32_w]
    rfl
  refine last_ (i := 10) (N := none) #[true, true, true, true, true, true, true, true, true, true, true] rfl rfl (one_of HT_.out (by kernel_rfl)) (by decide) (fun K hK => ?_)
  refine skip_ (w1 := ?_) (by rfl) rfl ?_ ?_
  rotate_left
  · go_simp
    rfl
  refine hK.out _ _ ?_
  clear hK K
  refine done_ (done_of HT_.out (by kernel_rfl)) ?_
  
  generalize hW5 : WD.setCell ⟨b3, 2, none⟩ (.slice s2.1 n s2.2.2) = W5
  have HF5 : Hid (W5.heap[b3]? = some (.cells #[.slice s0.1 s0.2.1 s0.2.2, .slice s1.1 s1.2.1 s1.2.2, .slice s2.1 n s2.2.2] 61 (0, 0))) := Lib.hid (by rw [← hW5]; exact blk_set HF.out 2 _)
  have HR5 : Hid (W5.heap[b3 + 1 + 1]? = some (.cells #[.slice none 0 0, .slice none 0 0, .slice none 0 0] 61 (0, 0))) := Lib.hid (by rw [← hW5]; exact blk_far HR6.out (by show b3 + 1 + 1 ≠ b3; omega) _)
  have HB5 : Hid (Below w.heap.size w W5) := Lib.hid (by rw [← hW5]; exact HB.out.setCell HG.out _)
  clear hW5 z3 HX4
  have hld := run_loadVar_row (P := Try.prog) W5.drew b3 61 61 #[.slice s0.1 s0.2.1 s0.2.2, .slice s1.1 s1.2.1 s1.2.2, .slice s2.1 n s2.2.2] (0, 0) _ (blk_drew HF5.out) Try.underlying61 rfl infoFs
  have HL : Hid ((Instr.loadAt 61 (.pointer (some ⟨b3, 0, none⟩))).run Try.prog W5.drew = .ok (.agg #[.slice s0.1 s0.2.1 s0.2.2, .slice s1.1 s1.2.1 s1.2.2, .slice s2.1 n s2.2.2]) W5.drew) := Lib.hid (by simp only [Instr.loadAt, Instr.sureAddr, Sem.run_bind, Sem.run_pure, Result.andThen_ok, hld])
  clear hld
  go_wp2_with (first | (refine wl_load 61 (.tmp 3) rfl rfl _ _ rfl HL.out ?_) | (refine wl_store 61 (.tmp 6) (.tmp 19) rfl rfl rfl rfl (blk_drew HR5.out) infoFs rfl (by simp [Value.oneCell']) ?_))
  refine bodyPost_ret (results_cell_row rfl _ _ (b3 + 1 + 1) 61 _ (0, 0) _ rfl (setRow_heap _ _ _ _ _ _ (blk_drew HR5.out)) Try.underlying61 rfl infoFs) rfl ?_
  exact ⟨rfl, below_setRow (below_drew1 HB5.out) (Nat.le_trans HG.out (by omega)) _⟩
end Go.Proofs.Ytfggcdpipolahaa.PF
