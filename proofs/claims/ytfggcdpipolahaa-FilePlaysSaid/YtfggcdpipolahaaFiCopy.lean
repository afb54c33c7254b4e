/- A disk's call Copy. -/
import Derived.Test.YtfggcdpipolahaaFiCrash
set_option linter.unusedVariables false
set_option linter.unusedSimpArgs false
namespace Go.Proofs.Ytfggcdpipolahaa.PF
open Go.RowKit Go.Proofs.YtfggcdpipolahaaW.PrintWords Go.Proofs.YtfggcdpipolahaaW.PrintLast Go.Proofs.YtfggcdpipolahaaW.PrintMore
attribute [local go_sem] max2_int min2_int max_two min_two
theorem flatOp : Gen.Flat kOp := by
  intro W base ok x cs h
  exact h
theorem DB.arm9 {w : World} {b : Nat} {d : Dk} (h : DB w b d) : w.cell? ⟨b, 9, none⟩ = some (.int .i64 d.arm) := h.cell 9 rfl
theorem DB.fail10 {w : World} {b : Nat} {d : Dk} (h : DB w b d) : w.cell? ⟨b, 10, none⟩ = some (.int .i64 d.fail) := h.cell 10 rfl
def file_copy.T3 : Bool × List (List Nat × List Nat) := (true, [([], []), ([0], [0]), ([1], [1]), ([2], [2]), ([], []), ([4], [4]), ([5], [5]), ([6], [6]), ([], []), ([8], [8]), ([9], [9]), ([10], [10]), ([11], [11]), ([], []), ([13], [13]), ([14], [14]), ([15], [15]), ([], []), ([17], [17]), ([18], [18]), ([19], [19]), ([3, 7, 12, 16, 20], [3, 7, 12, 16, 20]), ([21], [21]), ([22, 12, 0, 1, 2, 3, 4, 5, 6, 7, 8, 9, 10, 11, 12, 13, 14, 15, 16, 17, 18, 19, 20, 21, 22], [22])])
def file_copy.B3 : List Nat := [0, 1, 3, 7, 0, 16, 48, 112, 0, 256, 768, 1792, 3840, 0, 8192, 24576, 57344, 0, 131072, 393216, 917504, 2097151, 4194303, 8388607]
theorem file_copy.tab3 : rtab .any (opsOf Try.f23 3) = file_copy.T3 := by kernel_rfl
theorem file_copy.bits3 : waitsOk file_copy.T3.2 file_copy.B3 = true := by kernel_rfl
def file_copy.T4 : Bool × List (List Nat × List Nat) := (true, [([], []), ([0], [0]), ([1], [1]), ([], []), ([3], [3]), ([4], [4]), ([5], [5]), ([2, 6, 6], [2, 6])])
def file_copy.B4 : List Nat := [0, 1, 3, 0, 8, 24, 56, 127]
theorem file_copy.tab4 : rtab .any (opsOf Try.f23 4) = file_copy.T4 := by kernel_rfl
theorem file_copy.bits4 : waitsOk file_copy.T4.2 file_copy.B4 = true := by kernel_rfl
def file_copy.T5 : Bool × List (List Nat × List Nat) := (true, [([], []), ([0], [0]), ([1], [1]), ([], []), ([3], [3]), ([4], [4]), ([5], [5]), ([2, 6, 6], [2, 6])])
def file_copy.B5 : List Nat := [0, 1, 3, 0, 8, 24, 56, 127]
theorem file_copy.tab5 : rtab .any (opsOf Try.f23 5) = file_copy.T5 := by kernel_rfl
theorem file_copy.bits5 : waitsOk file_copy.T5.2 file_copy.B5 = true := by kernel_rfl
set_option maxRecDepth 100000 in
set_option maxHeartbeats 8000000 in
theorem copy_calls {w : World} {b : Nat} {ok : Nat → Prop} {d : Dk} {rs : List Rop} {a : ADk} (h : Mem w b ok d rs a) (hl : a.ops.length ≤ 1099511627776) :
    Calls Try.prog 23 #[.pointer (some ⟨b, 0, none⟩)] w fun e w' => ∃ b2 d2, e = .returned (.pointer (some ⟨b2, 0, none⟩)) ∧ Mem w' b2 ok d2 rs a ∧ Below w.heap.size w w' ∧ w.heap.size ≤ b2 ∧ (∀ k, d2.opsB = some k → w.heap.size ≤ k) := by
  have H0 := Lib.hid (none_calls h.box)
  have HM := Lib.hid h
  have HN := Lib.hid (show d.ops.2.1 = rs.length from (Kd.R_reads' h.ops).1)
  have HBr := Lib.hid (below_drew1 (Below.refl w.heap.size w))
  have HQ := Lib.hid (fun (W : World) (hW : Below w.heap.size w W) => (⟨(h.below hW).box.ld_now, (h.below hW).box.ld_safe, (h.below hW).box.cell 7 rfl, (h.below hW).box.cell 8 rfl, (h.below hW).box.cell 11 rfl⟩ : (Instr.loadAt 61 (.pointer (some ⟨b, 1, none⟩))).run Try.prog W = .ok (.agg #[.slice d.n0.1 d.n0.2.1 d.n0.2.2, .slice d.n1.1 d.n1.2.1 d.n1.2.2, .slice d.n2.1 d.n2.2.1 d.n2.2.2]) W ∧ (Instr.loadAt 61 (.pointer (some ⟨b, 4, none⟩))).run Try.prog W = .ok (.agg #[.slice d.s0.1 d.s0.2.1 d.s0.2.2, .slice d.s1.1 d.s1.2.1 d.s1.2.2, .slice d.s2.1 d.s2.2.1 d.s2.2.2]) W ∧ W.cell? ⟨b, 7, none⟩ = some (.slice d.ops.1 d.ops.2.1 d.ops.2.2) ∧ W.cell? ⟨b, 8, none⟩ = some (.bool d.down) ∧ W.cell? ⟨b, 11, none⟩ = some (.int .i64 d.wth)))
  have HC := Lib.hid (fun (W : World) (hW : Below w.heap.size w W) => show Calls Try.prog 37 #[.slice d.ops.1 d.ops.2.1 d.ops.2.2] W fun e w' => ∃ v0_ : Value, e = .returned v0_ ∧ Kd.R kOp 77 w' W.heap.size (fun _ => True) v0_ rs ∧ Below W.heap.size W w' by
    have hr := Kd.R_reads' h.ops
    rw [hr.1]
    exact Gen.clone77 kOp rfl flatOp rs d.ops.1 d.ops.2.2 W (Kd.C_below hr.2.2 hW) (by rw [← hr.1]; exact hr.2.1) (by have := h.rel.len; omega))
  clear h
  go_enter Try.func23, Try.ntmps23
  go_wp2_with fail
  refine H0.out.mono ?_
  rintro e w0 ⟨rfl, rfl⟩
  go_upto_region 3 with (fail)
  refine start_ (n := 24) (S := fun w' => (Instr.loadAt 61 (.pointer (some ⟨b, 1, none⟩))).run Try.prog w' = .ok (.agg #[.slice d.n0.1 d.n0.2.1 d.n0.2.2, .slice d.n1.1 d.n1.2.1 d.n1.2.2, .slice d.n2.1 d.n2.2.1 d.n2.2.2]) w' ∧ (Instr.loadAt 61 (.pointer (some ⟨b, 4, none⟩))).run Try.prog w' = .ok (.agg #[.slice d.s0.1 d.s0.2.1 d.s0.2.2, .slice d.s1.1 d.s1.2.1 d.s1.2.2, .slice d.s2.1 d.s2.2.1 d.s2.2.2]) w' ∧ w'.cell? ⟨b, 7, none⟩ = some (.slice d.ops.1 d.ops.2.1 d.ops.2.2) ∧ w'.cell? ⟨b, 8, none⟩ = some (.bool d.down) ∧ w'.cell? ⟨b, 11, none⟩ = some (.int .i64 d.wth)) (ds := []) #[false, false, false, false, false, false, false, false, false, false, false, false, false, false, false, false, false, false, false, false, false, false, false, false] (by kernel_rfl) rfl rfl ⟨(HQ.out _ HBr.out).1, (HQ.out _ HBr.out).2.1, (HQ.out _ HBr.out).2.2.1, (HQ.out _ HBr.out).2.2.2.1, (HQ.out _ HBr.out).2.2.2.2⟩ (fun hHeld => ?_)
  refine with_tabW file_copy.tab3 file_copy.bits3 (fun HT_ HW_ => ?_)
  refine pure_ (i := 0) (N := some 6) (v := ?_) (a' := ?_) #[true, false, false, false, false, false, false, false, false, false, false, false, false, false, false, false, false, false, false, false, false, false, false, false] rfl rfl (any_of HT_.out (by kernel_rfl)) (fun _ _ _ h => h) (Or.inl ⟨by rfl, ?_⟩) ?_ ?_
  rotate_left
  · intro w'
    go_simp
    with_reducible rfl
  rotate_left
  · simp only [Act.put, List.setIfInBounds_toArray, List.set_cons_zero, List.set_cons_succ, i64_w, i32_w]
    rfl
  refine pure_ (i := 1) (N := some 7) (v := ?_) (a' := ?_) #[true, true, false, false, false, false, false, false, false, false, false, false, false, false, false, false, false, false, false, false, false, false, false, false] rfl rfl (any_of HT_.out (by kernel_rfl)) (fun _ _ _ h => h) (Or.inl ⟨by rfl, ?_⟩) ?_ ?_
  rotate_left
  · intro w'
    go_simp
    with_reducible rfl
  rotate_left
  · simp only [Act.put, List.setIfInBounds_toArray, List.set_cons_zero, List.set_cons_succ, i64_w, i32_w]
    rfl
  refine pure_ (i := 2) (N := some 8) (v := ?_) (a' := ?_) #[true, true, true, false, false, false, false, false, false, false, false, false, false, false, false, false, false, false, false, false, false, false, false, false] rfl rfl (any_of HT_.out (by kernel_rfl)) (fun _ _ _ h => h) (Or.inl ⟨by rfl, ?_⟩) ?_ ?_
  rotate_left
  · intro w'
    go_simp
    with_reducible rfl
  rotate_left
  · simp only [Act.put, List.setIfInBounds_toArray, List.set_cons_zero, List.set_cons_succ, i64_w, i32_w]
    rfl
  refine pure_ (i := 4) (N := some 10) (v := ?_) (a' := ?_) #[true, true, true, false, true, false, false, false, false, false, false, false, false, false, false, false, false, false, false, false, false, false, false, false] rfl rfl (any_of HT_.out (by kernel_rfl)) (fun _ _ _ h => h) (Or.inl ⟨by rfl, ?_⟩) ?_ ?_
  rotate_left
  · intro w'
    go_simp
    with_reducible rfl
  rotate_left
  · simp only [Act.put, List.setIfInBounds_toArray, List.set_cons_zero, List.set_cons_succ, i64_w, i32_w]
    rfl
  refine pure_ (i := 5) (N := some 11) (v := ?_) (a' := ?_) #[true, true, true, false, true, true, false, false, false, false, false, false, false, false, false, false, false, false, false, false, false, false, false, false] rfl rfl (any_of HT_.out (by kernel_rfl)) (fun _ _ _ h => h) (Or.inl ⟨by rfl, ?_⟩) ?_ ?_
  rotate_left
  · intro w'
    go_simp
    with_reducible rfl
  rotate_left
  · simp only [Act.put, List.setIfInBounds_toArray, List.set_cons_zero, List.set_cons_succ, i64_w, i32_w]
    rfl
  refine pure_ (i := 6) (N := some 12) (v := ?_) (a' := ?_) #[true, true, true, false, true, true, true, false, false, false, false, false, false, false, false, false, false, false, false, false, false, false, false, false] rfl rfl (any_of HT_.out (by kernel_rfl)) (fun _ _ _ h => h) (Or.inl ⟨by rfl, ?_⟩) ?_ ?_
  rotate_left
  · intro w'
    go_simp
    with_reducible rfl
  rotate_left
  · simp only [Act.put, List.setIfInBounds_toArray, List.set_cons_zero, List.set_cons_succ, i64_w, i32_w]
    rfl
  refine pure_ (i := 8) (N := some 14) (v := ?_) (a' := ?_) #[true, true, true, false, true, true, true, false, true, false, false, false, false, false, false, false, false, false, false, false, false, false, false, false] rfl rfl (any_of HT_.out (by kernel_rfl)) (fun _ _ _ h => h) (Or.inl ⟨by rfl, ?_⟩) ?_ ?_
  rotate_left
  · intro w'
    go_simp
    with_reducible rfl
  rotate_left
  · simp only [Act.put, List.setIfInBounds_toArray, List.set_cons_zero, List.set_cons_succ, i64_w, i32_w]
    rfl
  refine pure_ (i := 9) (N := some 15) (v := ?_) (a' := ?_) #[true, true, true, false, true, true, true, false, true, true, false, false, false, false, false, false, false, false, false, false, false, false, false, false] rfl rfl (any_of HT_.out (by kernel_rfl)) (fun _ _ _ h => h) (Or.inl ⟨by rfl, ?_⟩) ?_ ?_
  rotate_left
  · intro w'
    go_simp
    with_reducible rfl
  rotate_left
  · simp only [Act.put, List.setIfInBounds_toArray, List.set_cons_zero, List.set_cons_succ, i64_w, i32_w]
    rfl
  refine pure_ (i := 10) (N := some 16) (v := ?_) (a' := ?_) #[true, true, true, false, true, true, true, false, true, true, true, false, false, false, false, false, false, false, false, false, false, false, false, false] rfl rfl (any_of HT_.out (by kernel_rfl)) (fun _ _ _ h => h) (Or.inl ⟨by rfl, ?_⟩) ?_ ?_
  rotate_left
  · intro w'
    go_simp
    with_reducible rfl
  rotate_left
  · simp only [Act.put, List.setIfInBounds_toArray, List.set_cons_zero, List.set_cons_succ, i64_w, i32_w]
    rfl
  refine pure_ (i := 13) (N := some 19) (v := ?_) (a' := ?_) #[true, true, true, false, true, true, true, false, true, true, true, false, false, true, false, false, false, false, false, false, false, false, false, false] rfl rfl (any_of HT_.out (by kernel_rfl)) (fun _ _ _ h => h) (Or.inl ⟨by rfl, ?_⟩) ?_ ?_
  rotate_left
  · intro w'
    go_simp
    with_reducible rfl
  rotate_left
  · simp only [Act.put, List.setIfInBounds_toArray, List.set_cons_zero, List.set_cons_succ, i64_w, i32_w]
    rfl
  refine pure_ (i := 14) (N := some 20) (v := ?_) (a' := ?_) #[true, true, true, false, true, true, true, false, true, true, true, false, false, true, true, false, false, false, false, false, false, false, false, false] rfl rfl (any_of HT_.out (by kernel_rfl)) (fun _ _ _ h => h) (Or.inl ⟨by rfl, ?_⟩) ?_ ?_
  rotate_left
  · intro w'
    go_simp
    with_reducible rfl
  rotate_left
  · simp only [Act.put, List.setIfInBounds_toArray, List.set_cons_zero, List.set_cons_succ, i64_w, i32_w]
    rfl
  refine pure_ (i := 15) (N := some 21) (v := ?_) (a' := ?_) #[true, true, true, false, true, true, true, false, true, true, true, false, false, true, true, true, false, false, false, false, false, false, false, false] rfl rfl (any_of HT_.out (by kernel_rfl)) (fun _ _ _ h => h) (Or.inl ⟨by rfl, ?_⟩) ?_ ?_
  rotate_left
  · intro w'
    go_simp
    with_reducible rfl
  rotate_left
  · simp only [Act.put, List.setIfInBounds_toArray, List.set_cons_zero, List.set_cons_succ, i64_w, i32_w]
    rfl
  refine pure_ (i := 17) (N := some 23) (v := ?_) (a' := ?_) #[true, true, true, false, true, true, true, false, true, true, true, false, false, true, true, true, false, true, false, false, false, false, false, false] rfl rfl (any_of HT_.out (by kernel_rfl)) (fun _ _ _ h => h) (Or.inl ⟨by rfl, ?_⟩) ?_ ?_
  rotate_left
  · intro w'
    go_simp
    with_reducible rfl
  rotate_left
  · simp only [Act.put, List.setIfInBounds_toArray, List.set_cons_zero, List.set_cons_succ, i64_w, i32_w]
    rfl
  refine pure_ (i := 18) (N := some 24) (v := ?_) (a' := ?_) #[true, true, true, false, true, true, true, false, true, true, true, false, false, true, true, true, false, true, true, false, false, false, false, false] rfl rfl (any_of HT_.out (by kernel_rfl)) (fun _ _ _ h => h) (Or.inl ⟨by rfl, ?_⟩) ?_ ?_
  rotate_left
  · intro w'
    go_simp
    with_reducible rfl
  rotate_left
  · simp only [Act.put, List.setIfInBounds_toArray, List.set_cons_zero, List.set_cons_succ, i64_w, i32_w]
    rfl
  refine pure_ (i := 19) (N := some 25) (v := ?_) (a' := ?_) #[true, true, true, false, true, true, true, false, true, true, true, false, false, true, true, true, false, true, true, true, false, false, false, false] rfl rfl (any_of HT_.out (by kernel_rfl)) (fun _ _ _ h => h) (Or.inl ⟨by rfl, ?_⟩) ?_ ?_
  rotate_left
  · intro w'
    go_simp
    with_reducible rfl
  rotate_left
  · simp only [Act.put, List.setIfInBounds_toArray, List.set_cons_zero, List.set_cons_succ, i64_w, i32_w]
    rfl
  refine take_ (i := 3) (N := some 9) (v := ?_) (a' := ?_) #[true, true, true, true, true, true, true, false, true, true, true, false, false, true, true, true, false, true, true, true, false, false, false, false] rfl rfl (take_ofW HT_.out HW_.out (by kernel_rfl)) (fun _ _ _ h => h) (Or.inl ⟨by rfl, ?_⟩) hHeld ?_ ?_
  rotate_left
  · rintro w' ⟨s0, s1, s2, s3, s4⟩
    clear s1 s2 s3 s4
    refine Eq.trans (exec_load (by rfl) (by rfl) s0) ?_
    with_reducible rfl
  rotate_left
  · simp only [Act.put, List.setIfInBounds_toArray, List.set_cons_zero, List.set_cons_succ, i64_w, i32_w]
    rfl
  refine take_ (i := 7) (N := some 13) (v := ?_) (a' := ?_) #[true, true, true, true, true, true, true, true, true, true, true, false, false, true, true, true, false, true, true, true, false, false, false, false] rfl rfl (take_ofW HT_.out HW_.out (by kernel_rfl)) (fun _ _ _ h => h) (Or.inl ⟨by rfl, ?_⟩) hHeld ?_ ?_
  rotate_left
  · rintro w' ⟨s0, s1, s2, s3, s4⟩
    clear s0 s2 s3 s4
    refine Eq.trans (exec_load (by rfl) (by rfl) s1) ?_
    with_reducible rfl
  rotate_left
  · simp only [Act.put, List.setIfInBounds_toArray, List.set_cons_zero, List.set_cons_succ, i64_w, i32_w]
    rfl
  refine take_ (i := 11) (N := some 17) (v := ?_) (a' := ?_) #[true, true, true, true, true, true, true, true, true, true, true, true, false, true, true, true, false, true, true, true, false, false, false, false] rfl rfl (take_ofW HT_.out HW_.out (by kernel_rfl)) (fun _ _ _ h => h) (Or.inl ⟨by rfl, ?_⟩) hHeld ?_ ?_
  rotate_left
  · rintro w' ⟨s0, s1, s2, s3, s4⟩
    clear s0 s1
    go_simp
    with_reducible rfl
  rotate_left
  · simp only [Act.put, List.setIfInBounds_toArray, List.set_cons_zero, List.set_cons_succ, i64_w, i32_w]
    rfl
  refine take_ (i := 16) (N := some 22) (v := ?_) (a' := ?_) #[true, true, true, true, true, true, true, true, true, true, true, true, false, true, true, true, true, true, true, true, false, false, false, false] rfl rfl (take_ofW HT_.out HW_.out (by kernel_rfl)) (fun _ _ _ h => h) (Or.inl ⟨by rfl, ?_⟩) hHeld ?_ ?_
  rotate_left
  · rintro w' ⟨s0, s1, s2, s3, s4⟩
    clear s0 s1
    go_simp
    with_reducible rfl
  rotate_left
  · simp only [Act.put, List.setIfInBounds_toArray, List.set_cons_zero, List.set_cons_succ, i64_w, i32_w]
    rfl
  refine take_ (i := 20) (N := some 26) (v := ?_) (a' := ?_) #[true, true, true, true, true, true, true, true, true, true, true, true, false, true, true, true, true, true, true, true, true, false, false, false] rfl rfl (take_ofW HT_.out HW_.out (by kernel_rfl)) (fun _ _ _ h => h) (Or.inl ⟨by rfl, ?_⟩) hHeld ?_ ?_
  rotate_left
  · rintro w' ⟨s0, s1, s2, s3, s4⟩
    clear s0 s1
    go_simp
    with_reducible rfl
  rotate_left
  · simp only [Act.put, List.setIfInBounds_toArray, List.set_cons_zero, List.set_cons_succ, i64_w, i32_w]
    rfl
  refine one_ (i := 12) (N := some 18) #[true, true, true, true, true, true, true, true, true, true, true, true, true, true, true, true, true, true, true, true, true, false, false, false] rfl rfl (one_of HT_.out (by kernel_rfl)) (by decide) (fun K hK => ?_)
  refine goes_ Try.func37 (by kernel_rfl) rfl #[.slice d.ops.1 d.ops.2.1 d.ops.2.2] (by rfl) rfl rfl (by simp only [List.map_toArray, List.map_cons, List.map_nil]; rfl) ?_
  with_reducible refine (HC.out _ HBr.out).mono ?_
  rintro e w3 ⟨v3, rfl, hr3, hb3⟩
  refine ⟨_, rfl, ?_⟩
  have HZ := Lib.hid HBr.out.size
  obtain ⟨A3, c3, hv3⟩ := Kd.R_slice hr3
  generalize hn3 : rs.length = n3 at hv3
  subst hv3
  have HR3 := Lib.hid hr3
  replace HBr := Lib.hid (below_then HBr.out HBr.out.size hb3)
  clear hr3 hb3 hn3
  refine hK.out _ _ ⟨(HQ.out _ HBr.out).1, (HQ.out _ HBr.out).2.1, (HQ.out _ HBr.out).2.2.1, (HQ.out _ HBr.out).2.2.2.1, (HQ.out _ HBr.out).2.2.2.2⟩ (fun hHeld => ?_)
  clear hK K
  refine norm_ (a' := ?_) ?_ ?_
  rotate_left
  · show Act.put _ (some 18) _ = _
    simp only [Act.put, List.setIfInBounds_toArray, List.set_cons_zero, List.set_cons_succ, i64_w, i32_w]
    rfl
  refine pure_ (i := 21) (N := some 27) (v := ?_) (a' := ?_) #[true, true, true, true, true, true, true, true, true, true, true, true, true, true, true, true, true, true, true, true, true, true, false, false] rfl rfl (any_of HT_.out (by kernel_rfl)) (fun _ _ _ h => h) (Or.inl ⟨by rfl, ?_⟩) ?_ ?_
  rotate_left
  · intro w'
    go_simp
    with_reducible rfl
  rotate_left
  · simp only [Act.put, List.setIfInBounds_toArray, List.set_cons_zero, List.set_cons_succ, i64_w, i32_w]
    rfl
  refine one_ (i := 22) (N := some 28) #[true, true, true, true, true, true, true, true, true, true, true, true, true, true, true, true, true, true, true, true, true, true, true, false] rfl rfl (one_of HT_.out (by kernel_rfl)) (by decide) (fun K hK => ?_)
  refine value_ (w1 := ?_) (v := ?_) (by rfl) rfl ?_ ?_
  rotate_left 2
  · go_simp
    constructor
    · rfl
    · rfl
  have HB2 := Lib.hid (blk_new w3 (.cells #[.bool true, .slice d.n0.1 d.n0.2.1 d.n0.2.2, .slice d.n1.1 d.n1.2.1 d.n1.2.2, .slice d.n2.1 d.n2.2.1 d.n2.2.2, .slice d.s0.1 d.s0.2.1 d.s0.2.2, .slice d.s1.1 d.s1.2.1 d.s1.2.2, .slice d.s2.1 d.s2.2.1 d.s2.2.2, .slice A3 n3 c3, .bool d.down, .int .i64 0, .int .i64 0, .int .i64 d.wth] 69))
  have HZ3 := Lib.hid HBr.out.size
  replace HR3 := Lib.hid (Kd.R_alloc HR3.out (.cells #[.bool true, .slice d.n0.1 d.n0.2.1 d.n0.2.2, .slice d.n1.1 d.n1.2.1 d.n1.2.2, .slice d.n2.1 d.n2.2.1 d.n2.2.2, .slice d.s0.1 d.s0.2.1 d.s0.2.2, .slice d.s1.1 d.s1.2.1 d.s1.2.2, .slice d.s2.1 d.s2.2.1 d.s2.2.2, .slice A3 n3 c3, .bool d.down, .int .i64 0, .int .i64 0, .int .i64 d.wth] 69))
  replace HBr := Lib.hid (below_then HBr.out HBr.out.size (below_alloc (Below.refl _ _) (.cells #[.bool true, .slice d.n0.1 d.n0.2.1 d.n0.2.2, .slice d.n1.1 d.n1.2.1 d.n1.2.2, .slice d.n2.1 d.n2.2.1 d.n2.2.2, .slice d.s0.1 d.s0.2.1 d.s0.2.2, .slice d.s1.1 d.s1.2.1 d.s1.2.2, .slice d.s2.1 d.s2.2.1 d.s2.2.2, .slice A3 n3 c3, .bool d.down, .int .i64 0, .int .i64 0, .int .i64 d.wth] 69)))
  refine hK.out _ _ ⟨(HQ.out _ HBr.out).1, (HQ.out _ HBr.out).2.1, (HQ.out _ HBr.out).2.2.1, (HQ.out _ HBr.out).2.2.2.1, (HQ.out _ HBr.out).2.2.2.2⟩ (fun hHeld => ?_)
  clear hK K
  refine norm_ (a' := ?_) ?_ ?_
  rotate_left
  · show Act.put _ (some 28) _ = _
    simp only [Act.put, List.setIfInBounds_toArray, List.set_cons_zero, List.set_cons_succ, i64_w, i32_w]
    rfl
  refine pure_ (i := 23) (N := some 3) (v := ?_) (a' := ?_) #[true, true, true, true, true, true, true, true, true, true, true, true, true, true, true, true, true, true, true, true, true, true, true, true] rfl rfl (any_of HT_.out (by kernel_rfl)) (fun _ _ _ h => h) (Or.inl ⟨by rfl, ?_⟩) ?_ ?_
  rotate_left
  · intro w'
    go_simp
    with_reducible rfl
  rotate_left
  · simp only [Act.put, List.setIfInBounds_toArray, List.set_cons_zero, List.set_cons_succ, i64_w, i32_w]
    rfl
  refine done_ (done_of HT_.out (by kernel_rfl)) ?_
  
  obtain ⟨b2, hb2⟩ : ∃ x, x = w3.heap.size := ⟨_, rfl⟩
  rw [← hb2] at HB2 HZ3 ⊢
  generalize w3.alloc (.cells #[.bool true, .slice d.n0.1 d.n0.2.1 d.n0.2.2, .slice d.n1.1 d.n1.2.1 d.n1.2.2, .slice d.n2.1 d.n2.2.1 d.n2.2.2, .slice d.s0.1 d.s0.2.1 d.s0.2.2, .slice d.s1.1 d.s1.2.1 d.s1.2.2, .slice d.s2.1 d.s2.2.1 d.s2.2.2, .slice A3 n3 c3, .bool d.down, .int .i64 0, .int .i64 0, .int .i64 d.wth] 69) = W3 at HBr HB2 HR3 ⊢
  have HMo := Lib.hid (HM.out.below HBr.out)
  have HM2 : Hid (Mem W3 b2 ok { d with ops := (A3, n3, c3), arm := 0, fail := 0 } rs { a with arm := 0, fail := 0 }) := Lib.hid ⟨HB2.out, HMo.out.now, HMo.out.safe, ops_tight (Kd.R_lower HR3.out (Nat.zero_le _)), HMo.out.rel, HMo.out.down, rfl, rfl, HMo.out.wth⟩
  have HOp : Hid (∀ k, (Value.slice A3 n3 c3).ownBlock = some k → w.heap.size ≤ k) := Lib.hid (fun k hk => Nat.le_trans HZ.out (Kd.R_base HR3.out k hk))
  have HNe : Hid (b ≠ b2) := Lib.hid (by have := blk_lt HM.out.box; have := HZ3.out; omega)
  have HL9 := Lib.hid (at_load (HMo.out.below (below_drew1 (Below.refl _ _))).box.arm9)
  have HS9 := Lib.hid (at_store (y := d.arm) (HM2.out.below (below_drew1 (Below.refl _ _))).box.arm9 (blk_frozen (HM2.out.below (below_drew1 (Below.refl _ _))).box 9))
  clear hb2 HB2 HR3 HC
  go_upto_region 4 with (fail)
  refine start_ (n := 8) (S := fun w' => True) (ds := []) #[false, false, false, false, false, false, false, false] (by kernel_rfl) rfl rfl trivial (fun hHeld => ?_)
  refine with_tabW file_copy.tab4 file_copy.bits4 (fun HT_ HW_ => ?_)
  refine pure_ (i := 0) (N := some 29) (v := ?_) (a' := ?_) #[true, false, false, false, false, false, false, false] rfl rfl (any_of HT_.out (by kernel_rfl)) (fun _ _ _ h => h) (Or.inl ⟨by rfl, ?_⟩) ?_ ?_
  rotate_left
  · intro w'
    go_simp
    with_reducible rfl
  rotate_left
  · simp only [Act.put, List.setIfInBounds_toArray, List.set_cons_zero, List.set_cons_succ, i64_w, i32_w]
    rfl
  refine pure_ (i := 1) (N := some 30) (v := ?_) (a' := ?_) #[true, true, false, false, false, false, false, false] rfl rfl (any_of HT_.out (by kernel_rfl)) (fun _ _ _ h => h) (Or.inl ⟨by rfl, ?_⟩) ?_ ?_
  rotate_left
  · intro w'
    go_simp
    with_reducible rfl
  rotate_left
  · simp only [Act.put, List.setIfInBounds_toArray, List.set_cons_zero, List.set_cons_succ, i64_w, i32_w]
    rfl
  refine pure_ (i := 2) (N := some 31) (v := ?_) (a' := ?_) #[true, true, true, false, false, false, false, false] rfl rfl (any_of HT_.out (by kernel_rfl)) (fun _ _ _ h => h) (Or.inl ⟨by rfl, ?_⟩) ?_ ?_
  rotate_left
  · intro w'
    go_simp
    with_reducible rfl
  rotate_left
  · simp only [Act.put, List.setIfInBounds_toArray, List.set_cons_zero, List.set_cons_succ, i64_w, i32_w]
    rfl
  refine pure_ (i := 3) (N := some 32) (v := ?_) (a' := ?_) #[true, true, true, true, false, false, false, false] rfl rfl (any_of HT_.out (by kernel_rfl)) (fun _ _ _ h => h) (Or.inl ⟨by rfl, ?_⟩) ?_ ?_
  rotate_left
  · intro w'
    go_simp
    with_reducible rfl
  rotate_left
  · simp only [Act.put, List.setIfInBounds_toArray, List.set_cons_zero, List.set_cons_succ, i64_w, i32_w]
    rfl
  refine pure_ (i := 4) (N := some 33) (v := ?_) (a' := ?_) #[true, true, true, true, true, false, false, false] rfl rfl (any_of HT_.out (by kernel_rfl)) (fun _ _ _ h => h) (Or.inl ⟨by rfl, ?_⟩) ?_ ?_
  rotate_left
  · intro w'
    go_simp
    with_reducible rfl
  rotate_left
  · simp only [Act.put, List.setIfInBounds_toArray, List.set_cons_zero, List.set_cons_succ, i64_w, i32_w]
    rfl
  refine pure_ (i := 5) (N := some 34) (v := ?_) (a' := ?_) #[true, true, true, true, true, true, false, false] rfl rfl (any_of HT_.out (by kernel_rfl)) (fun _ _ _ h => h) (Or.inl ⟨by rfl, ?_⟩) ?_ ?_
  rotate_left
  · intro w'
    go_simp
    with_reducible rfl
  rotate_left
  · simp only [Act.put, List.setIfInBounds_toArray, List.set_cons_zero, List.set_cons_succ, i64_w, i32_w]
    rfl
  refine one_ (i := 6) (N := some 35) #[true, true, true, true, true, true, true, false] rfl rfl (one_of HT_.out (by kernel_rfl)) (by decide) (fun K hK => ?_)
  refine goes_ Try.func38 (by kernel_rfl) rfl #[.pointer (some ⟨b, 9, none⟩)] (by rfl) rfl rfl (by simp only [List.map_toArray, List.map_cons, List.map_nil]; rfl) ?_
  with_reducible refine (HL9.out).mono ?_
  rintro e w5 ⟨rfl, hw5⟩
  refine ⟨_, rfl, ?_⟩
  subst hw5
  refine hK.out _ _ trivial (fun hHeld => ?_)
  clear hK K
  refine norm_ (a' := ?_) ?_ ?_
  rotate_left
  · show Act.put _ (some 35) _ = _
    simp only [Act.put, List.setIfInBounds_toArray, List.set_cons_zero, List.set_cons_succ, i64_w, i32_w]
    rfl
  refine one_ (i := 7) (N := some 36) #[true, true, true, true, true, true, true, true] rfl rfl (one_of HT_.out (by kernel_rfl)) (by decide) (fun K hK => ?_)
  refine goes_ Try.func36 (by kernel_rfl) rfl #[.pointer (some ⟨b2, 9, none⟩), .int .i64 d.arm] (by rfl) rfl rfl (by simp only [List.map_toArray, List.map_cons, List.map_nil]; rfl) ?_
  with_reducible refine (HS9.out).mono ?_
  rintro e w6 ⟨rfl, hw6⟩
  refine ⟨_, rfl, ?_⟩
  have HM6 := Lib.hid (hw6 ▸ (HM2.out.below (below_drew1 (Below.refl _ _))).setArm d.arm)
  have HBx := Lib.hid (show Below w.heap.size w w6 from hw6 ▸ (below_drew1 HBr.out).setCell HZ3.out _)
  clear HBr
  have HBr := HBx
  have HMo6 := Lib.hid (HM.out.below HBr.out)
  clear hw6 HBx
  refine hK.out _ _ trivial (fun hHeld => ?_)
  clear hK K
  refine norm_ (a' := ?_) ?_ ?_
  rotate_left
  · show Act.put _ (some 36) _ = _
    simp only [Act.put, List.setIfInBounds_toArray, List.set_cons_zero, List.set_cons_succ, i64_w, i32_w]
    rfl
  refine done_ (done_of HT_.out (by kernel_rfl)) ?_
  
  have HL10 := Lib.hid (at_load (HMo6.out.below (below_drew1 (Below.refl _ _))).box.fail10)
  have HS10 := Lib.hid (at_store (y := d.fail) (HM6.out.below (below_drew1 (Below.refl _ _))).box.fail10 (blk_frozen (HM6.out.below (below_drew1 (Below.refl _ _))).box 10))
  go_upto_region 5 with (fail)
  refine start_ (n := 8) (S := fun w' => True) (ds := []) #[false, false, false, false, false, false, false, false] (by kernel_rfl) rfl rfl trivial (fun hHeld => ?_)
  refine with_tabW file_copy.tab5 file_copy.bits5 (fun HT_ HW_ => ?_)
  refine pure_ (i := 0) (N := some 37) (v := ?_) (a' := ?_) #[true, false, false, false, false, false, false, false] rfl rfl (any_of HT_.out (by kernel_rfl)) (fun _ _ _ h => h) (Or.inl ⟨by rfl, ?_⟩) ?_ ?_
  rotate_left
  · intro w'
    go_simp
    with_reducible rfl
  rotate_left
  · simp only [Act.put, List.setIfInBounds_toArray, List.set_cons_zero, List.set_cons_succ, i64_w, i32_w]
    rfl
  refine pure_ (i := 1) (N := some 38) (v := ?_) (a' := ?_) #[true, true, false, false, false, false, false, false] rfl rfl (any_of HT_.out (by kernel_rfl)) (fun _ _ _ h => h) (Or.inl ⟨by rfl, ?_⟩) ?_ ?_
  rotate_left
  · intro w'
    go_simp
    with_reducible rfl
  rotate_left
  · simp only [Act.put, List.setIfInBounds_toArray, List.set_cons_zero, List.set_cons_succ, i64_w, i32_w]
    rfl
  refine pure_ (i := 2) (N := some 39) (v := ?_) (a' := ?_) #[true, true, true, false, false, false, false, false] rfl rfl (any_of HT_.out (by kernel_rfl)) (fun _ _ _ h => h) (Or.inl ⟨by rfl, ?_⟩) ?_ ?_
  rotate_left
  · intro w'
    go_simp
    with_reducible rfl
  rotate_left
  · simp only [Act.put, List.setIfInBounds_toArray, List.set_cons_zero, List.set_cons_succ, i64_w, i32_w]
    rfl
  refine pure_ (i := 3) (N := some 40) (v := ?_) (a' := ?_) #[true, true, true, true, false, false, false, false] rfl rfl (any_of HT_.out (by kernel_rfl)) (fun _ _ _ h => h) (Or.inl ⟨by rfl, ?_⟩) ?_ ?_
  rotate_left
  · intro w'
    go_simp
    with_reducible rfl
  rotate_left
  · simp only [Act.put, List.setIfInBounds_toArray, List.set_cons_zero, List.set_cons_succ, i64_w, i32_w]
    rfl
  refine pure_ (i := 4) (N := some 41) (v := ?_) (a' := ?_) #[true, true, true, true, true, false, false, false] rfl rfl (any_of HT_.out (by kernel_rfl)) (fun _ _ _ h => h) (Or.inl ⟨by rfl, ?_⟩) ?_ ?_
  rotate_left
  · intro w'
    go_simp
    with_reducible rfl
  rotate_left
  · simp only [Act.put, List.setIfInBounds_toArray, List.set_cons_zero, List.set_cons_succ, i64_w, i32_w]
    rfl
  refine pure_ (i := 5) (N := some 42) (v := ?_) (a' := ?_) #[true, true, true, true, true, true, false, false] rfl rfl (any_of HT_.out (by kernel_rfl)) (fun _ _ _ h => h) (Or.inl ⟨by rfl, ?_⟩) ?_ ?_
  rotate_left
  · intro w'
    go_simp
    with_reducible rfl
  rotate_left
  · simp only [Act.put, List.setIfInBounds_toArray, List.set_cons_zero, List.set_cons_succ, i64_w, i32_w]
    rfl
  refine one_ (i := 6) (N := some 43) #[true, true, true, true, true, true, true, false] rfl rfl (one_of HT_.out (by kernel_rfl)) (by decide) (fun K hK => ?_)
  refine goes_ Try.func38 (by kernel_rfl) rfl #[.pointer (some ⟨b, 10, none⟩)] (by rfl) rfl rfl (by simp only [List.map_toArray, List.map_cons, List.map_nil]; rfl) ?_
  with_reducible refine (HL10.out).mono ?_
  rintro e w7 ⟨rfl, hw7⟩
  refine ⟨_, rfl, ?_⟩
  subst hw7
  refine hK.out _ _ trivial (fun hHeld => ?_)
  clear hK K
  refine norm_ (a' := ?_) ?_ ?_
  rotate_left
  · show Act.put _ (some 43) _ = _
    simp only [Act.put, List.setIfInBounds_toArray, List.set_cons_zero, List.set_cons_succ, i64_w, i32_w]
    rfl
  refine one_ (i := 7) (N := some 44) #[true, true, true, true, true, true, true, true] rfl rfl (one_of HT_.out (by kernel_rfl)) (by decide) (fun K hK => ?_)
  refine goes_ Try.func36 (by kernel_rfl) rfl #[.pointer (some ⟨b2, 10, none⟩), .int .i64 d.fail] (by rfl) rfl rfl (by simp only [List.map_toArray, List.map_cons, List.map_nil]; rfl) ?_
  with_reducible refine (HS10.out).mono ?_
  rintro e w8 ⟨rfl, hw8⟩
  refine ⟨_, rfl, ?_⟩
  have HM8 := Lib.hid (hw8 ▸ (HM6.out.below (below_drew1 (Below.refl _ _))).setFail d.fail)
  have HBx := Lib.hid (show Below w.heap.size w w8 from hw8 ▸ (below_drew1 HBr.out).setCell HZ3.out _)
  clear HBr
  have HBr := HBx
  clear hw8 HBx
  refine hK.out _ _ trivial (fun hHeld => ?_)
  clear hK K
  refine norm_ (a' := ?_) ?_ ?_
  rotate_left
  · show Act.put _ (some 44) _ = _
    simp only [Act.put, List.setIfInBounds_toArray, List.set_cons_zero, List.set_cons_succ, i64_w, i32_w]
    rfl
  refine done_ (done_of HT_.out (by kernel_rfl)) ?_
  
  go_wp2
  go_ret
  refine ⟨b2, rfl, { d with ops := (A3, n3, c3) }, ?_, HBr.out, HZ3.out, HOp.out⟩
  have := HM8.out
  exact ⟨this.box, this.now, this.safe, this.ops, this.rel, this.down, HM.out.arm, HM.out.fail, this.wth⟩
end Go.Proofs.Ytfggcdpipolahaa.PF
