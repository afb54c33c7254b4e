/- Files behind an append. -/
import Derived.Test.YtfggcdpipolahaaFiDone
set_option linter.unusedVariables false
set_option linter.unusedSimpArgs false
namespace Go.Proofs.Ytfggcdpipolahaa.PF
open Go.RowKit Go.Proofs.YtfggcdpipolahaaW.PrintWords Go.Proofs.YtfggcdpipolahaaW.PrintLast Go.Proofs.YtfggcdpipolahaaW.PrintMore
attribute [local go_sem] max2_int min2_int max_two min_two
theorem concat_k {A1 A2 : Option Addr} {c1 c2 g k : Nat} {l m : List Int} {w : World} (hk : m.length = k) (hg : w.heap[g]? = some (.cells #[.slice A1 l.length c1, .slice A2 k c2] 24 (0, 0))) (h1 : Kd.C ku8 w A1 l.length l) (h2 : Kd.C ku8 w A2 m.length m) (hl : l.length + m.length ≤ 4398046511104) :
    Calls Try.prog 51 #[.slice (some ⟨g, 0, none⟩) 2 2] w fun e w' => ∃ A c, e = .returned (.slice A (l ++ m).length c) ∧ Kd.R ku8 5 w' w.heap.size (fun _ => True) (.slice A (l ++ m).length c) (l ++ m) ∧ Below w.heap.size w w' := by
  subst hk
  exact concat_calls hg h1 h2 hl
def file_doneA.T4 : Bool × List (List Nat × List Nat) := (true, [([], []), ([0], [0]), ([], []), ([2], [2]), ([3], [3]), ([4], [4]), ([], []), ([6], [6]), ([], []), ([], []), ([9], [9]), ([10], [10]), ([8, 11], [8, 11]), ([7, 12], [7, 12]), ([5, 13], [5, 13]), ([14], [14]), ([1, 0, 1, 2, 3, 4, 5, 6, 7, 8, 9, 10, 11, 12, 13, 14, 15], [1]), ([16, 15, 15, 0, 1, 2, 3, 4, 5, 6, 7, 8, 9, 10, 11, 12, 13, 14, 15], [15, 16])])
def file_doneA.B4 : List Nat := [0, 1, 0, 4, 12, 28, 0, 64, 0, 0, 512, 1536, 3840, 8128, 16380, 32764, 65535, 131071]
theorem file_doneA.tab4 : rtab .any (opsOf Try.f35 4) = file_doneA.T4 := by kernel_rfl
theorem file_doneA.bits4 : waitsOk file_doneA.T4.2 file_doneA.B4 = true := by kernel_rfl
set_option maxRecDepth 100000 in
set_option maxHeartbeats 4000000 in
theorem done_app0 (w : World) (s1 s2 : Sl) (l m : List Int) (Af : Option Addr) (cf : Nat) (h1 : Kd.C ku8 w Af l.length l) (Ad : Option Addr) (cd : Nat) (h2 : Kd.C ku8 w Ad m.length m) (hcd : m.length ≤ cd) (n torn : Int) (k : Nat) (hk : k ≤ m.length) (hmin : (if (m.length : Int) < torn then (m.length : Int) else torn) = (k : Int)) (hl : l.length + m.length ≤ 4398046511104) :
    Calls Try.prog 35 #[.agg #[.slice Af l.length cf, .slice s1.1 s1.2.1 s1.2.2, .slice s2.1 s2.2.1 s2.2.2], .agg #[.int .i64 0, .bool false, .int .i64 n, .slice Ad m.length cd], .int .i64 torn] w fun e w' => ∃ A' c', e = .returned (.agg #[.slice A' (l ++ m.take k).length c', .slice s1.1 s1.2.1 s1.2.2, .slice s2.1 s2.2.1 s2.2.2]) ∧ Kd.R ku8 5 w' w.heap.size (fun _ => True) (.slice A' (l ++ m.take k).length c') (l ++ m.take k) ∧ Below w.heap.size w w' := by
  obtain ⟨i0, hi, _, hz1, _⟩ := info_parts Low.info8
  have hcut := Low.cut_h (P := Try.prog) 24 5 Try.underlying24 hi hz1 Ad m.length cd k (by omega)
  have hml : m.length ≤ 9223372036854775807 := by omega
  have hC := Lib.hid (And.intro h1 h2)
  clear h1 h2 hi hz1
  go_enter Try.func35, Try.ntmps35
  go_upto_region 4 with (fail)
  generalize hWD : ((w.alloc (.cells _ 61)).alloc (.cells _ 77)).alloc (.cells _ 61) = WD
  obtain ⟨b3, hb3⟩ : ∃ b, b = w.heap.size := ⟨_, rfl⟩
  rw [← hb3]
  have HB := Lib.hid (show Below w.heap.size w WD by rw [← hWD]; exact below_alloc (below_alloc (below_alloc (Below.refl _ _) _) _) _)
  have HF : Hid (WD.heap[b3]? = some (.cells #[.slice Af l.length cf, .slice s1.1 s1.2.1 s1.2.2, .slice s2.1 s2.2.1 s2.2.2] 61 (0, 0))) := Lib.hid (by rw [← hWD, hb3]; exact blk_alloc (blk_alloc (blk_new _ _) _) _)
  have HO : Hid (WD.heap[b3 + 1]? = some (.cells #[.int .i64 0, .bool false, .int .i64 n, .slice Ad m.length cd] 77 (0, 0))) := Lib.hid (by rw [← hWD, hb3, ← World.size_alloc w (.cells #[.slice Af l.length cf, .slice s1.1 s1.2.1 s1.2.2, .slice s2.1 s2.2.1 s2.2.2] 61)]; exact blk_alloc (blk_new _ _) _)
  have HR6 : Hid (WD.heap[b3 + 1 + 1]? = some (.cells #[.slice none 0 0, .slice none 0 0, .slice none 0 0] 61 (0, 0))) := Lib.hid (by
    have e : ∀ x y : Obj, ((w.alloc x).alloc y).heap.size = w.heap.size + 1 + 1 := fun x y => by simp only [World.size_alloc]
    rw [← hWD, hb3, ← e]
    exact blk_new _ _)
  have HG := Lib.hid (show w.heap.size ≤ b3 by omega)
  have HBr := Lib.hid (below_drew1 (Below.refl WD.heap.size WD))
  have HQ1 := Lib.hid (fun (W : World) (hW : Below WD.heap.size WD W) => (blk_cell (blk_below HO.out hW) 0).trans (show _ = some (.int .i64 0) from rfl))
  have HQ2 := Lib.hid (fun (W : World) (hW : Below WD.heap.size WD W) => (blk_cell (blk_below HO.out hW) 3).trans (show _ = some (.slice Ad m.length cd) from rfl))
  have HQ3 := Lib.hid (fun (W : World) (hW : Below WD.heap.size WD W) => (blk_cell (blk_below HF.out hW) 0).trans (show _ = some (.slice Af l.length cf) from rfl))
  have etk : (m.take k).length = k := by rw [List.length_take]; omega
  have HA := Lib.hid (fun (W : World) (hW : Below WD.heap.size WD W) => (show Kd.C ku8 W Af l.length l ∧ Kd.C ku8 W Ad (m.take k).length (m.take k) from ⟨Kd.C_below (Kd.C_below hC.out.1 HB.out) hW, by rw [etk]; exact Low.take_C (Kd.C_below (Kd.C_below hC.out.2 HB.out) hW) k hk⟩))
  have HLen := Lib.hid (show l.length + (m.take k).length ≤ 4398046511104 by rw [etk]; omega)
  have hkc : k ≤ cd := by omega
  have HEk := Lib.hid etk
  obtain ⟨N, hN⟩ : ∃ N, N = (l ++ m.take k).length := ⟨_, rfl⟩
  have HN := Lib.hid hN
  clear hWD hb3 hk etk hN
  refine start_ (n := 18) (S := fun w' => w'.cell? ⟨b3 + 1, 0, none⟩ = some (.int .i64 0) ∧ w'.cell? ⟨b3 + 1, 3, none⟩ = some (.slice Ad m.length cd) ∧ w'.cell? ⟨b3, 0, none⟩ = some (.slice Af l.length cf)) (ds := [17]) #[false, false, false, false, false, false, false, false, false, false, false, false, false, false, false, false, false, false] (by kernel_rfl) rfl rfl ⟨HQ1.out _ HBr.out, HQ2.out _ HBr.out, HQ3.out _ HBr.out⟩ (fun hHeld => ?_)
  refine with_tabW file_doneA.tab4 file_doneA.bits4 (fun HT_ HW_ => ?_)
  refine pure_ (i := 0) (N := some 20) (v := ?_) (a' := ?_) #[true, false, false, false, false, false, false, false, false, false, false, false, false, false, false, false, false, false] rfl rfl (any_of HT_.out (by kernel_rfl)) (fun _ _ _ h => h) (Or.inl ⟨by rfl, ?_⟩) ?_ ?_
  rotate_left
  · intro w'
    go_simp
    with_reducible rfl
  rotate_left
  · simp only [Act.put, List.setIfInBounds_toArray, List.set_cons_zero, List.set_cons_succ, i64_w, i32_w]
    rfl
  refine pure_ (i := 2) (N := some 22) (v := ?_) (a' := ?_) #[true, false, true, false, false, false, false, false, false, false, false, false, false, false, false, false, false, false] rfl rfl (any_of HT_.out (by kernel_rfl)) (fun _ _ _ h => h) (Or.inl ⟨by rfl, ?_⟩) ?_ ?_
  rotate_left
  · intro w'
    go_simp
    with_reducible rfl
  rotate_left
  · simp only [Act.put, List.setIfInBounds_toArray, List.set_cons_zero, List.set_cons_succ, i64_w, i32_w]
    rfl
  refine pure_ (i := 6) (N := some 26) (v := ?_) (a' := ?_) #[true, false, true, false, false, false, true, false, false, false, false, false, false, false, false, false, false, false] rfl rfl (any_of HT_.out (by kernel_rfl)) (fun _ _ _ h => h) (Or.inl ⟨by rfl, ?_⟩) ?_ ?_
  rotate_left
  · intro w'
    go_simp
    with_reducible rfl
  rotate_left
  · simp only [Act.put, List.setIfInBounds_toArray, List.set_cons_zero, List.set_cons_succ, i64_w, i32_w]
    rfl
  refine pure_ (i := 8) (N := some 28) (v := ?_) (a' := ?_) #[true, false, true, false, false, false, true, false, true, false, false, false, false, false, false, false, false, false] rfl rfl (any_of HT_.out (by kernel_rfl)) (fun _ _ _ h => h) (Or.inl ⟨by rfl, ?_⟩) ?_ ?_
  rotate_left
  · intro w'
    go_simp
    with_reducible rfl
  rotate_left
  · simp only [Act.put, List.setIfInBounds_toArray, List.set_cons_zero, List.set_cons_succ, i64_w, i32_w]
    rfl
  refine pure_ (i := 9) (N := some 29) (v := ?_) (a' := ?_) #[true, false, true, false, false, false, true, false, true, true, false, false, false, false, false, false, false, false] rfl rfl (any_of HT_.out (by kernel_rfl)) (fun _ _ _ h => h) (Or.inl ⟨by rfl, ?_⟩) ?_ ?_
  rotate_left
  · intro w'
    go_simp
    with_reducible rfl
  rotate_left
  · simp only [Act.put, List.setIfInBounds_toArray, List.set_cons_zero, List.set_cons_succ, i64_w, i32_w]
    rfl
  refine take_ (i := 1) (N := some 21) (v := ?_) (a' := ?_) #[true, true, true, false, false, false, true, false, true, true, false, false, false, false, false, false, false, false] rfl rfl (take_ofW HT_.out HW_.out (by kernel_rfl)) (fun _ _ _ h => h) (Or.inl ⟨by rfl, ?_⟩) hHeld ?_ ?_
  rotate_left
  · rintro w' ⟨s0, s1, s2⟩
    go_simp
    with_reducible rfl
  rotate_left
  · simp only [Act.put, List.setIfInBounds_toArray, List.set_cons_zero, List.set_cons_succ, i64_w, i32_w]
    rfl
  refine take_ (i := 3) (N := some 23) (v := ?_) (a' := ?_) #[true, true, true, true, false, false, true, false, true, true, false, false, false, false, false, false, false, false] rfl rfl (take_ofW HT_.out HW_.out (by kernel_rfl)) (fun _ _ _ h => h) (Or.inl ⟨by rfl, ?_⟩) hHeld ?_ ?_
  rotate_left
  · rintro w' ⟨s0, s1, s2⟩
    go_simp
    with_reducible rfl
  rotate_left
  · simp only [Act.put, List.setIfInBounds_toArray, List.set_cons_zero, List.set_cons_succ, i64_w, i32_w]
    rfl
  refine pure_ (i := 4) (N := some 24) (v := ?_) (a' := ?_) #[true, true, true, true, true, false, true, false, true, true, false, false, false, false, false, false, false, false] rfl rfl (any_of HT_.out (by kernel_rfl)) (fun _ _ _ h => h) (Or.inl ⟨by rfl, ?_⟩) ?_ ?_
  rotate_left
  · intro w'
    go_simp
    with_reducible rfl
  rotate_left
  · simp only [Act.put, List.setIfInBounds_toArray, List.set_cons_zero, List.set_cons_succ, i64_w, i32_w]
    rfl
  refine take_ (i := 5) (N := some 25) (v := ?_) (a' := ?_) #[true, true, true, true, true, true, true, false, true, true, false, false, false, false, false, false, false, false] rfl rfl (take_ofW HT_.out HW_.out (by kernel_rfl)) (fun _ _ _ h => h) (Or.inl ⟨by rfl, ?_⟩) hHeld ?_ ?_
  rotate_left
  · rintro w' ⟨s0, s1, s2⟩
    go_simp
    with_reducible rfl
  rotate_left
  · simp only [Act.put, List.setIfInBounds_toArray, List.set_cons_zero, List.set_cons_succ, i64_w, i32_w]
    rfl
  refine take_ (i := 7) (N := some 27) (v := ?_) (a' := ?_) #[true, true, true, true, true, true, true, true, true, true, false, false, false, false, false, false, false, false] rfl rfl (take_ofW HT_.out HW_.out (by kernel_rfl)) (fun _ _ _ h => h) (Or.inl ⟨by rfl, ?_⟩) hHeld ?_ ?_
  rotate_left
  · rintro w' ⟨s0, s1, s2⟩
    go_simp
    with_reducible rfl
  rotate_left
  · simp only [Act.put, List.setIfInBounds_toArray, List.set_cons_zero, List.set_cons_succ, i64_w, i32_w]
    rfl
  refine take_ (i := 10) (N := some 30) (v := ?_) (a' := ?_) #[true, true, true, true, true, true, true, true, true, true, true, false, false, false, false, false, false, false] rfl rfl (take_ofW HT_.out HW_.out (by kernel_rfl)) (fun _ _ _ h => h) (Or.inl ⟨by rfl, ?_⟩) hHeld ?_ ?_
  rotate_left
  · rintro w' ⟨s0, s1, s2⟩
    go_simp
    with_reducible rfl
  rotate_left
  · simp only [Act.put, List.setIfInBounds_toArray, List.set_cons_zero, List.set_cons_succ, i64_w, i32_w]
    rfl
  refine pure_ (i := 11) (N := some 31) (v := ?_) (a' := ?_) #[true, true, true, true, true, true, true, true, true, true, true, true, false, false, false, false, false, false] rfl rfl (any_of HT_.out (by kernel_rfl)) (fun _ _ _ h => h) (Or.inl ⟨by rfl, ?_⟩) ?_ ?_
  rotate_left
  · intro w'
    go_simp
    with_reducible rfl
  rotate_left
  · simp only [Act.put, List.setIfInBounds_toArray, List.set_cons_zero, List.set_cons_succ, i64_w, i32_w]
    rfl
  refine pure_ (i := 12) (N := some 32) (v := ?_) (a' := ?_) #[true, true, true, true, true, true, true, true, true, true, true, true, true, false, false, false, false, false] rfl rfl (any_of HT_.out (by kernel_rfl)) (fun _ _ _ h => h) (Or.inl ⟨by rfl, ?_⟩) ?_ ?_
  rotate_left
  · intro w'
    go_simp
    with_reducible rfl
  rotate_left
  · simp only [Act.put, List.setIfInBounds_toArray, List.set_cons_zero, List.set_cons_succ, i64_w, i32_w]
    rfl
  refine pure_ (i := 13) (N := some 33) (v := ?_) (a' := ?_) #[true, true, true, true, true, true, true, true, true, true, true, true, true, true, false, false, false, false] rfl rfl (any_of HT_.out (by kernel_rfl)) (fun _ _ _ h => h) (Or.inl ⟨by rfl, ?_⟩) ?_ ?_
  rotate_left
  · intro w'
    go_simp
    with_reducible rfl
  rotate_left
  · simp only [Act.put, List.setIfInBounds_toArray, List.set_cons_zero, List.set_cons_succ, i64_w, i32_w]
    rfl
  refine one_ (i := 14) (N := some 34) #[true, true, true, true, true, true, true, true, true, true, true, true, true, true, true, false, false, false] rfl rfl (one_of HT_.out (by kernel_rfl)) (by decide) (fun K hK => ?_)
  refine value_ (w1 := ?_) (v := ?_) (by rfl) rfl ?_ ?_
  rotate_left 2
  · go_simp
    constructor
    · rfl
    · rfl
  have HRow := Lib.hid (show ((WD.alloc (.cells #[.slice Af l.length cf, .slice Ad k cd] 24)).drew).heap[WD.heap.size]? = some (.cells #[.slice Af l.length cf, .slice Ad k cd] 24 (0, 0)) from blk_new WD.drew (.cells #[.slice Af l.length cf, .slice Ad k cd] 24))
  replace HBr := Lib.hid (below_drew1 (below_alloc (Below.refl WD.heap.size WD) (.cells #[.slice Af l.length cf, .slice Ad k cd] 24)))
  have HCo := Lib.hid (concat_k HEk.out HRow.out (HA.out _ HBr.out).1 (HA.out _ HBr.out).2 HLen.out)
  refine hK.out _ _ ⟨HQ1.out _ HBr.out, HQ2.out _ HBr.out, HQ3.out _ HBr.out⟩ (fun hHeld => ?_)
  clear hK K
  refine norm_ (a' := ?_) ?_ ?_
  rotate_left
  · show Act.put _ (some 34) _ = _
    simp only [Act.put, List.setIfInBounds_toArray, List.set_cons_zero, List.set_cons_succ, i64_w, i32_w]
    rfl
  refine one_ (i := 15) (N := some 35) #[true, true, true, true, true, true, true, true, true, true, true, true, true, true, true, true, false, false] rfl rfl (one_of HT_.out (by kernel_rfl)) (by decide) (fun K hK => ?_)
  refine goes_ Try.func51 (by kernel_rfl) rfl #[.slice (some ⟨WD.heap.size, 0, none⟩) 2 2] (by rfl) rfl rfl (by simp only [List.map_toArray, List.map_cons, List.map_nil]; rfl) ?_
  with_reducible refine (HCo.out).mono ?_
  rintro e w8 ⟨A8, c8, he8, hR8, hb8⟩
  rw [← HN.out] at he8
  subst he8
  refine ⟨_, rfl, ?_⟩
  have HR8 := Lib.hid hR8
  have HS8 := Lib.hid HBr.out.size
  replace HBr := Lib.hid (below_then HBr.out HBr.out.size hb8)
  have z8 : w8.frozen? ⟨b3, 0, none⟩ = false := blk_frozen (blk_below HF.out HBr.out) 0
  clear hR8 hb8
  refine hK.out _ _ ⟨HQ1.out _ HBr.out, HQ2.out _ HBr.out, HQ3.out _ HBr.out⟩ (fun hHeld => ?_)
  clear hK K
  refine norm_ (a' := ?_) ?_ ?_
  rotate_left
  · show Act.put _ (some 35) _ = _
    simp only [Act.put, List.setIfInBounds_toArray, List.set_cons_zero, List.set_cons_succ, i64_w, i32_w]
    rfl
  refine pure_ (i := 16) (N := some 36) (v := ?_) (a' := ?_) #[true, true, true, true, true, true, true, true, true, true, true, true, true, true, true, true, true, false] rfl rfl (any_of HT_.out (by kernel_rfl)) (fun _ _ _ h => h) (Or.inl ⟨by rfl, ?_⟩) ?_ ?_
  rotate_left
  · intro w'
    go_simp
    with_reducible rfl
  rotate_left
  · simp only [Act.put, List.setIfInBounds_toArray, List.set_cons_zero, List.set_cons_succ, i64_w, i32_w]
    rfl
  refine last_ (i := 17) (N := none) #[true, true, true, true, true, true, true, true, true, true, true, true, true, true, true, true, true, true] rfl rfl (one_of HT_.out (by kernel_rfl)) (by decide) (fun K hK => ?_)
  refine skip_ (w1 := ?_) (by rfl) rfl ?_ ?_
  rotate_left
  · go_simp
    rfl
  refine hK.out _ _ ?_
  clear hK K
  refine done_ (done_of HT_.out (by kernel_rfl)) ?_
  
  clear HA HEk HCo HRow hcut hml HLen hkc HQ1 HQ2 HQ3
  generalize hW5 : w8.setCell ⟨b3, 0, none⟩ (.slice A8 N c8) = W5
  have HF8 := Lib.hid (blk_below HF.out HBr.out)
  have HF5 : Hid (W5.heap[b3]? = some (.cells #[.slice A8 N c8, .slice s1.1 s1.2.1 s1.2.2, .slice s2.1 s2.2.1 s2.2.2] 61 (0, 0))) := Lib.hid (by rw [← hW5]; exact blk_set HF8.out 0 _)
  have HR5 : Hid (W5.heap[b3 + 1 + 1]? = some (.cells #[.slice none 0 0, .slice none 0 0, .slice none 0 0] 61 (0, 0))) := Lib.hid (by rw [← hW5]; exact blk_far (blk_below HR6.out HBr.out) (by show b3 + 1 + 1 ≠ b3; omega) _)
  have HB5 : Hid (Below w.heap.size w W5) := Lib.hid (by rw [← hW5]; exact (below_then HB.out HB.out.size HBr.out).setCell HG.out _)
  have HN5 : Hid (Kd.R ku8 5 W5 w.heap.size (fun _ => True) (.slice A8 N c8) (l ++ m.take k)) := Lib.hid (by
    rw [← hW5]
    have h8 := HR8.out
    rw [← HN.out] at h8
    exact Kd.R_lower (Kd.R_set h8 HF8.out (by decide) 0 _) (Nat.le_trans HB.out.size (by simp [World.size_alloc])))
  clear hW5 z8 HR8 HF8 HS8
  have hld := run_loadVar_row (P := Try.prog) W5 b3 61 61 #[.slice A8 N c8, .slice s1.1 s1.2.1 s1.2.2, .slice s2.1 s2.2.1 s2.2.2] (0, 0) _ HF5.out Try.underlying61 rfl infoFs
  have HL : Hid ((Instr.loadAt 61 (.pointer (some ⟨b3, 0, none⟩))).run Try.prog W5 = .ok (.agg #[.slice A8 N c8, .slice s1.1 s1.2.1 s1.2.2, .slice s2.1 s2.2.1 s2.2.2]) W5) := Lib.hid (by simp only [Instr.loadAt, Instr.sureAddr, Sem.run_bind, Sem.run_pure, Result.andThen_ok, hld])
  clear hld
  go_wp2_with (first | (refine wl_load 61 (.tmp 3) rfl rfl _ _ rfl HL.out ?_) | (refine wl_store 61 (.tmp 6) (.tmp 37) rfl rfl rfl rfl HR5.out infoFs rfl (by simp [Value.oneCell']) ?_))
  refine bodyPost_ret (results_cell_row rfl _ _ (b3 + 1 + 1) 61 #[.slice A8 N c8, .slice s1.1 s1.2.1 s1.2.2, .slice s2.1 s2.2.1 s2.2.2] (0, 0) _ rfl (setRow_heap _ _ _ _ _ _ HR5.out) Try.underlying61 rfl infoFs) rfl ?_
  rw [← HN.out]
  refine ⟨A8, c8, rfl, ?_, below_setRow HB5.out (Nat.le_trans HG.out (by omega)) _⟩
  exact Kd.R_mono (Kd.R_step (Kd.R_types HN5.out HR5.out (by decide)) (fun k hk _ => setRow_other _ _ _ _ hk.2)) (fun _ _ => trivial)
set_option maxRecDepth 100000 in
set_option maxHeartbeats 4000000 in
theorem done_app1 (w : World) (s1 s2 : Sl) (l m : List Int) (Af : Option Addr) (cf : Nat) (h1 : Kd.C ku8 w Af l.length l) (Ad : Option Addr) (cd : Nat) (h2 : Kd.C ku8 w Ad m.length m) (hcd : m.length ≤ cd) (n torn : Int) (k : Nat) (hk : k ≤ m.length) (hmin : (if (m.length : Int) < torn then (m.length : Int) else torn) = (k : Int)) (hl : l.length + m.length ≤ 4398046511104) :
    Calls Try.prog 35 #[.agg #[.slice s1.1 s1.2.1 s1.2.2, .slice Af l.length cf, .slice s2.1 s2.2.1 s2.2.2], .agg #[.int .i64 1, .bool false, .int .i64 n, .slice Ad m.length cd], .int .i64 torn] w fun e w' => ∃ A' c', e = .returned (.agg #[.slice s1.1 s1.2.1 s1.2.2, .slice A' (l ++ m.take k).length c', .slice s2.1 s2.2.1 s2.2.2]) ∧ Kd.R ku8 5 w' w.heap.size (fun _ => True) (.slice A' (l ++ m.take k).length c') (l ++ m.take k) ∧ Below w.heap.size w w' := by
  obtain ⟨i0, hi, _, hz1, _⟩ := info_parts Low.info8
  have hcut := Low.cut_h (P := Try.prog) 24 5 Try.underlying24 hi hz1 Ad m.length cd k (by omega)
  have hml : m.length ≤ 9223372036854775807 := by omega
  have hC := Lib.hid (And.intro h1 h2)
  clear h1 h2 hi hz1
  go_enter Try.func35, Try.ntmps35
  go_upto_region 4 with (fail)
  generalize hWD : ((w.alloc (.cells _ 61)).alloc (.cells _ 77)).alloc (.cells _ 61) = WD
  obtain ⟨b3, hb3⟩ : ∃ b, b = w.heap.size := ⟨_, rfl⟩
  rw [← hb3]
  have HB := Lib.hid (show Below w.heap.size w WD by rw [← hWD]; exact below_alloc (below_alloc (below_alloc (Below.refl _ _) _) _) _)
  have HF : Hid (WD.heap[b3]? = some (.cells #[.slice s1.1 s1.2.1 s1.2.2, .slice Af l.length cf, .slice s2.1 s2.2.1 s2.2.2] 61 (0, 0))) := Lib.hid (by rw [← hWD, hb3]; exact blk_alloc (blk_alloc (blk_new _ _) _) _)
  have HO : Hid (WD.heap[b3 + 1]? = some (.cells #[.int .i64 1, .bool false, .int .i64 n, .slice Ad m.length cd] 77 (0, 0))) := Lib.hid (by rw [← hWD, hb3, ← World.size_alloc w (.cells #[.slice s1.1 s1.2.1 s1.2.2, .slice Af l.length cf, .slice s2.1 s2.2.1 s2.2.2] 61)]; exact blk_alloc (blk_new _ _) _)
  have HR6 : Hid (WD.heap[b3 + 1 + 1]? = some (.cells #[.slice none 0 0, .slice none 0 0, .slice none 0 0] 61 (0, 0))) := Lib.hid (by
    have e : ∀ x y : Obj, ((w.alloc x).alloc y).heap.size = w.heap.size + 1 + 1 := fun x y => by simp only [World.size_alloc]
    rw [← hWD, hb3, ← e]
    exact blk_new _ _)
  have HG := Lib.hid (show w.heap.size ≤ b3 by omega)
  have HBr := Lib.hid (below_drew1 (Below.refl WD.heap.size WD))
  have HQ1 := Lib.hid (fun (W : World) (hW : Below WD.heap.size WD W) => (blk_cell (blk_below HO.out hW) 0).trans (show _ = some (.int .i64 1) from rfl))
  have HQ2 := Lib.hid (fun (W : World) (hW : Below WD.heap.size WD W) => (blk_cell (blk_below HO.out hW) 3).trans (show _ = some (.slice Ad m.length cd) from rfl))
  have HQ3 := Lib.hid (fun (W : World) (hW : Below WD.heap.size WD W) => (blk_cell (blk_below HF.out hW) 1).trans (show _ = some (.slice Af l.length cf) from rfl))
  have etk : (m.take k).length = k := by rw [List.length_take]; omega
  have HA := Lib.hid (fun (W : World) (hW : Below WD.heap.size WD W) => (show Kd.C ku8 W Af l.length l ∧ Kd.C ku8 W Ad (m.take k).length (m.take k) from ⟨Kd.C_below (Kd.C_below hC.out.1 HB.out) hW, by rw [etk]; exact Low.take_C (Kd.C_below (Kd.C_below hC.out.2 HB.out) hW) k hk⟩))
  have HLen := Lib.hid (show l.length + (m.take k).length ≤ 4398046511104 by rw [etk]; omega)
  have hkc : k ≤ cd := by omega
  have HEk := Lib.hid etk
  obtain ⟨N, hN⟩ : ∃ N, N = (l ++ m.take k).length := ⟨_, rfl⟩
  have HN := Lib.hid hN
  clear hWD hb3 hk etk hN
  refine start_ (n := 18) (S := fun w' => w'.cell? ⟨b3 + 1, 0, none⟩ = some (.int .i64 1) ∧ w'.cell? ⟨b3 + 1, 3, none⟩ = some (.slice Ad m.length cd) ∧ w'.cell? ⟨b3, 1, none⟩ = some (.slice Af l.length cf)) (ds := [17]) #[false, false, false, false, false, false, false, false, false, false, false, false, false, false, false, false, false, false] (by kernel_rfl) rfl rfl ⟨HQ1.out _ HBr.out, HQ2.out _ HBr.out, HQ3.out _ HBr.out⟩ (fun hHeld => ?_)
  refine with_tabW file_doneA.tab4 file_doneA.bits4 (fun HT_ HW_ => ?_)
  refine pure_ (i := 0) (N := some 20) (v := ?_) (a' := ?_) #[true, false, false, false, false, false, false, false, false, false, false, false, false, false, false, false, false, false] rfl rfl (any_of HT_.out (by kernel_rfl)) (fun _ _ _ h => h) (Or.inl ⟨by rfl, ?_⟩) ?_ ?_
  rotate_left
  · intro w'
    go_simp
    with_reducible rfl
  rotate_left
  · simp only [Act.put, List.setIfInBounds_toArray, List.set_cons_zero, List.set_cons_succ, i64_w, i32_w]
    rfl
  refine pure_ (i := 2) (N := some 22) (v := ?_) (a' := ?_) #[true, false, true, false, false, false, false, false, false, false, false, false, false, false, false, false, false, false] rfl rfl (any_of HT_.out (by kernel_rfl)) (fun _ _ _ h => h) (Or.inl ⟨by rfl, ?_⟩) ?_ ?_
  rotate_left
  · intro w'
    go_simp
    with_reducible rfl
  rotate_left
  · simp only [Act.put, List.setIfInBounds_toArray, List.set_cons_zero, List.set_cons_succ, i64_w, i32_w]
    rfl
  refine pure_ (i := 6) (N := some 26) (v := ?_) (a' := ?_) #[true, false, true, false, false, false, true, false, false, false, false, false, false, false, false, false, false, false] rfl rfl (any_of HT_.out (by kernel_rfl)) (fun _ _ _ h => h) (Or.inl ⟨by rfl, ?_⟩) ?_ ?_
  rotate_left
  · intro w'
    go_simp
    with_reducible rfl
  rotate_left
  · simp only [Act.put, List.setIfInBounds_toArray, List.set_cons_zero, List.set_cons_succ, i64_w, i32_w]
    rfl
  refine pure_ (i := 8) (N := some 28) (v := ?_) (a' := ?_) #[true, false, true, false, false, false, true, false, true, false, false, false, false, false, false, false, false, false] rfl rfl (any_of HT_.out (by kernel_rfl)) (fun _ _ _ h => h) (Or.inl ⟨by rfl, ?_⟩) ?_ ?_
  rotate_left
  · intro w'
    go_simp
    with_reducible rfl
  rotate_left
  · simp only [Act.put, List.setIfInBounds_toArray, List.set_cons_zero, List.set_cons_succ, i64_w, i32_w]
    rfl
  refine pure_ (i := 9) (N := some 29) (v := ?_) (a' := ?_) #[true, false, true, false, false, false, true, false, true, true, false, false, false, false, false, false, false, false] rfl rfl (any_of HT_.out (by kernel_rfl)) (fun _ _ _ h => h) (Or.inl ⟨by rfl, ?_⟩) ?_ ?_
  rotate_left
  · intro w'
    go_simp
    with_reducible rfl
  rotate_left
  · simp only [Act.put, List.setIfInBounds_toArray, List.set_cons_zero, List.set_cons_succ, i64_w, i32_w]
    rfl
  refine take_ (i := 1) (N := some 21) (v := ?_) (a' := ?_) #[true, true, true, false, false, false, true, false, true, true, false, false, false, false, false, false, false, false] rfl rfl (take_ofW HT_.out HW_.out (by kernel_rfl)) (fun _ _ _ h => h) (Or.inl ⟨by rfl, ?_⟩) hHeld ?_ ?_
  rotate_left
  · rintro w' ⟨s0, s1, s2⟩
    go_simp
    with_reducible rfl
  rotate_left
  · simp only [Act.put, List.setIfInBounds_toArray, List.set_cons_zero, List.set_cons_succ, i64_w, i32_w]
    rfl
  refine take_ (i := 3) (N := some 23) (v := ?_) (a' := ?_) #[true, true, true, true, false, false, true, false, true, true, false, false, false, false, false, false, false, false] rfl rfl (take_ofW HT_.out HW_.out (by kernel_rfl)) (fun _ _ _ h => h) (Or.inl ⟨by rfl, ?_⟩) hHeld ?_ ?_
  rotate_left
  · rintro w' ⟨s0, s1, s2⟩
    go_simp
    with_reducible rfl
  rotate_left
  · simp only [Act.put, List.setIfInBounds_toArray, List.set_cons_zero, List.set_cons_succ, i64_w, i32_w]
    rfl
  refine pure_ (i := 4) (N := some 24) (v := ?_) (a' := ?_) #[true, true, true, true, true, false, true, false, true, true, false, false, false, false, false, false, false, false] rfl rfl (any_of HT_.out (by kernel_rfl)) (fun _ _ _ h => h) (Or.inl ⟨by rfl, ?_⟩) ?_ ?_
  rotate_left
  · intro w'
    go_simp
    with_reducible rfl
  rotate_left
  · simp only [Act.put, List.setIfInBounds_toArray, List.set_cons_zero, List.set_cons_succ, i64_w, i32_w]
    rfl
  refine take_ (i := 5) (N := some 25) (v := ?_) (a' := ?_) #[true, true, true, true, true, true, true, false, true, true, false, false, false, false, false, false, false, false] rfl rfl (take_ofW HT_.out HW_.out (by kernel_rfl)) (fun _ _ _ h => h) (Or.inl ⟨by rfl, ?_⟩) hHeld ?_ ?_
  rotate_left
  · rintro w' ⟨s0, s1, s2⟩
    go_simp
    with_reducible rfl
  rotate_left
  · simp only [Act.put, List.setIfInBounds_toArray, List.set_cons_zero, List.set_cons_succ, i64_w, i32_w]
    rfl
  refine take_ (i := 7) (N := some 27) (v := ?_) (a' := ?_) #[true, true, true, true, true, true, true, true, true, true, false, false, false, false, false, false, false, false] rfl rfl (take_ofW HT_.out HW_.out (by kernel_rfl)) (fun _ _ _ h => h) (Or.inl ⟨by rfl, ?_⟩) hHeld ?_ ?_
  rotate_left
  · rintro w' ⟨s0, s1, s2⟩
    go_simp
    with_reducible rfl
  rotate_left
  · simp only [Act.put, List.setIfInBounds_toArray, List.set_cons_zero, List.set_cons_succ, i64_w, i32_w]
    rfl
  refine take_ (i := 10) (N := some 30) (v := ?_) (a' := ?_) #[true, true, true, true, true, true, true, true, true, true, true, false, false, false, false, false, false, false] rfl rfl (take_ofW HT_.out HW_.out (by kernel_rfl)) (fun _ _ _ h => h) (Or.inl ⟨by rfl, ?_⟩) hHeld ?_ ?_
  rotate_left
  · rintro w' ⟨s0, s1, s2⟩
    go_simp
    with_reducible rfl
  rotate_left
  · simp only [Act.put, List.setIfInBounds_toArray, List.set_cons_zero, List.set_cons_succ, i64_w, i32_w]
    rfl
  refine pure_ (i := 11) (N := some 31) (v := ?_) (a' := ?_) #[true, true, true, true, true, true, true, true, true, true, true, true, false, false, false, false, false, false] rfl rfl (any_of HT_.out (by kernel_rfl)) (fun _ _ _ h => h) (Or.inl ⟨by rfl, ?_⟩) ?_ ?_
  rotate_left
  · intro w'
    go_simp
    with_reducible rfl
  rotate_left
  · simp only [Act.put, List.setIfInBounds_toArray, List.set_cons_zero, List.set_cons_succ, i64_w, i32_w]
    rfl
  refine pure_ (i := 12) (N := some 32) (v := ?_) (a' := ?_) #[true, true, true, true, true, true, true, true, true, true, true, true, true, false, false, false, false, false] rfl rfl (any_of HT_.out (by kernel_rfl)) (fun _ _ _ h => h) (Or.inl ⟨by rfl, ?_⟩) ?_ ?_
  rotate_left
  · intro w'
    go_simp
    with_reducible rfl
  rotate_left
  · simp only [Act.put, List.setIfInBounds_toArray, List.set_cons_zero, List.set_cons_succ, i64_w, i32_w]
    rfl
  refine pure_ (i := 13) (N := some 33) (v := ?_) (a' := ?_) #[true, true, true, true, true, true, true, true, true, true, true, true, true, true, false, false, false, false] rfl rfl (any_of HT_.out (by kernel_rfl)) (fun _ _ _ h => h) (Or.inl ⟨by rfl, ?_⟩) ?_ ?_
  rotate_left
  · intro w'
    go_simp
    with_reducible rfl
  rotate_left
  · simp only [Act.put, List.setIfInBounds_toArray, List.set_cons_zero, List.set_cons_succ, i64_w, i32_w]
    rfl
  refine one_ (i := 14) (N := some 34) #[true, true, true, true, true, true, true, true, true, true, true, true, true, true, true, false, false, false] rfl rfl (one_of HT_.out (by kernel_rfl)) (by decide) (fun K hK => ?_)
  refine value_ (w1 := ?_) (v := ?_) (by rfl) rfl ?_ ?_
  rotate_left 2
  · go_simp
    constructor
    · rfl
    · rfl
  have HRow := Lib.hid (show ((WD.alloc (.cells #[.slice Af l.length cf, .slice Ad k cd] 24)).drew).heap[WD.heap.size]? = some (.cells #[.slice Af l.length cf, .slice Ad k cd] 24 (0, 0)) from blk_new WD.drew (.cells #[.slice Af l.length cf, .slice Ad k cd] 24))
  replace HBr := Lib.hid (below_drew1 (below_alloc (Below.refl WD.heap.size WD) (.cells #[.slice Af l.length cf, .slice Ad k cd] 24)))
  have HCo := Lib.hid (concat_k HEk.out HRow.out (HA.out _ HBr.out).1 (HA.out _ HBr.out).2 HLen.out)
  refine hK.out _ _ ⟨HQ1.out _ HBr.out, HQ2.out _ HBr.out, HQ3.out _ HBr.out⟩ (fun hHeld => ?_)
  clear hK K
  refine norm_ (a' := ?_) ?_ ?_
  rotate_left
  · show Act.put _ (some 34) _ = _
    simp only [Act.put, List.setIfInBounds_toArray, List.set_cons_zero, List.set_cons_succ, i64_w, i32_w]
    rfl
  refine one_ (i := 15) (N := some 35) #[true, true, true, true, true, true, true, true, true, true, true, true, true, true, true, true, false, false] rfl rfl (one_of HT_.out (by kernel_rfl)) (by decide) (fun K hK => ?_)
  refine goes_ Try.func51 (by kernel_rfl) rfl #[.slice (some ⟨WD.heap.size, 0, none⟩) 2 2] (by rfl) rfl rfl (by simp only [List.map_toArray, List.map_cons, List.map_nil]; rfl) ?_
  with_reducible refine (HCo.out).mono ?_
  rintro e w8 ⟨A8, c8, he8, hR8, hb8⟩
  rw [← HN.out] at he8
  subst he8
  refine ⟨_, rfl, ?_⟩
  have HR8 := Lib.hid hR8
  have HS8 := Lib.hid HBr.out.size
  replace HBr := Lib.hid (below_then HBr.out HBr.out.size hb8)
  have z8 : w8.frozen? ⟨b3, 1, none⟩ = false := blk_frozen (blk_below HF.out HBr.out) 1
  clear hR8 hb8
  refine hK.out _ _ ⟨HQ1.out _ HBr.out, HQ2.out _ HBr.out, HQ3.out _ HBr.out⟩ (fun hHeld => ?_)
  clear hK K
  refine norm_ (a' := ?_) ?_ ?_
  rotate_left
  · show Act.put _ (some 35) _ = _
    simp only [Act.put, List.setIfInBounds_toArray, List.set_cons_zero, List.set_cons_succ, i64_w, i32_w]
    rfl
  refine pure_ (i := 16) (N := some 36) (v := ?_) (a' := ?_) #[true, true, true, true, true, true, true, true, true, true, true, true, true, true, true, true, true, false] rfl rfl (any_of HT_.out (by kernel_rfl)) (fun _ _ _ h => h) (Or.inl ⟨by rfl, ?_⟩) ?_ ?_
  rotate_left
  · intro w'
    go_simp
    with_reducible rfl
  rotate_left
  · simp only [Act.put, List.setIfInBounds_toArray, List.set_cons_zero, List.set_cons_succ, i64_w, i32_w]
    rfl
  refine last_ (i := 17) (N := none) #[true, true, true, true, true, true, true, true, true, true, true, true, true, true, true, true, true, true] rfl rfl (one_of HT_.out (by kernel_rfl)) (by decide) (fun K hK => ?_)
  refine skip_ (w1 := ?_) (by rfl) rfl ?_ ?_
  rotate_left
  · go_simp
    rfl
  refine hK.out _ _ ?_
  clear hK K
  refine done_ (done_of HT_.out (by kernel_rfl)) ?_
  
  clear HA HEk HCo HRow hcut hml HLen hkc HQ1 HQ2 HQ3
  generalize hW5 : w8.setCell ⟨b3, 1, none⟩ (.slice A8 N c8) = W5
  have HF8 := Lib.hid (blk_below HF.out HBr.out)
  have HF5 : Hid (W5.heap[b3]? = some (.cells #[.slice s1.1 s1.2.1 s1.2.2, .slice A8 N c8, .slice s2.1 s2.2.1 s2.2.2] 61 (0, 0))) := Lib.hid (by rw [← hW5]; exact blk_set HF8.out 1 _)
  have HR5 : Hid (W5.heap[b3 + 1 + 1]? = some (.cells #[.slice none 0 0, .slice none 0 0, .slice none 0 0] 61 (0, 0))) := Lib.hid (by rw [← hW5]; exact blk_far (blk_below HR6.out HBr.out) (by show b3 + 1 + 1 ≠ b3; omega) _)
  have HB5 : Hid (Below w.heap.size w W5) := Lib.hid (by rw [← hW5]; exact (below_then HB.out HB.out.size HBr.out).setCell HG.out _)
  have HN5 : Hid (Kd.R ku8 5 W5 w.heap.size (fun _ => True) (.slice A8 N c8) (l ++ m.take k)) := Lib.hid (by
    rw [← hW5]
    have h8 := HR8.out
    rw [← HN.out] at h8
    exact Kd.R_lower (Kd.R_set h8 HF8.out (by decide) 1 _) (Nat.le_trans HB.out.size (by simp [World.size_alloc])))
  clear hW5 z8 HR8 HF8 HS8
  have hld := run_loadVar_row (P := Try.prog) W5 b3 61 61 #[.slice s1.1 s1.2.1 s1.2.2, .slice A8 N c8, .slice s2.1 s2.2.1 s2.2.2] (0, 0) _ HF5.out Try.underlying61 rfl infoFs
  have HL : Hid ((Instr.loadAt 61 (.pointer (some ⟨b3, 0, none⟩))).run Try.prog W5 = .ok (.agg #[.slice s1.1 s1.2.1 s1.2.2, .slice A8 N c8, .slice s2.1 s2.2.1 s2.2.2]) W5) := Lib.hid (by simp only [Instr.loadAt, Instr.sureAddr, Sem.run_bind, Sem.run_pure, Result.andThen_ok, hld])
  clear hld
  go_wp2_with (first | (refine wl_load 61 (.tmp 3) rfl rfl _ _ rfl HL.out ?_) | (refine wl_store 61 (.tmp 6) (.tmp 37) rfl rfl rfl rfl HR5.out infoFs rfl (by simp [Value.oneCell']) ?_))
  refine bodyPost_ret (results_cell_row rfl _ _ (b3 + 1 + 1) 61 #[.slice s1.1 s1.2.1 s1.2.2, .slice A8 N c8, .slice s2.1 s2.2.1 s2.2.2] (0, 0) _ rfl (setRow_heap _ _ _ _ _ _ HR5.out) Try.underlying61 rfl infoFs) rfl ?_
  rw [← HN.out]
  refine ⟨A8, c8, rfl, ?_, below_setRow HB5.out (Nat.le_trans HG.out (by omega)) _⟩
  exact Kd.R_mono (Kd.R_step (Kd.R_types HN5.out HR5.out (by decide)) (fun k hk _ => setRow_other _ _ _ _ hk.2)) (fun _ _ => trivial)
set_option maxRecDepth 100000 in
set_option maxHeartbeats 4000000 in
theorem done_app2 (w : World) (s1 s2 : Sl) (l m : List Int) (Af : Option Addr) (cf : Nat) (h1 : Kd.C ku8 w Af l.length l) (Ad : Option Addr) (cd : Nat) (h2 : Kd.C ku8 w Ad m.length m) (hcd : m.length ≤ cd) (n torn : Int) (k : Nat) (hk : k ≤ m.length) (hmin : (if (m.length : Int) < torn then (m.length : Int) else torn) = (k : Int)) (hl : l.length + m.length ≤ 4398046511104) :
    Calls Try.prog 35 #[.agg #[.slice s1.1 s1.2.1 s1.2.2, .slice s2.1 s2.2.1 s2.2.2, .slice Af l.length cf], .agg #[.int .i64 2, .bool false, .int .i64 n, .slice Ad m.length cd], .int .i64 torn] w fun e w' => ∃ A' c', e = .returned (.agg #[.slice s1.1 s1.2.1 s1.2.2, .slice s2.1 s2.2.1 s2.2.2, .slice A' (l ++ m.take k).length c']) ∧ Kd.R ku8 5 w' w.heap.size (fun _ => True) (.slice A' (l ++ m.take k).length c') (l ++ m.take k) ∧ Below w.heap.size w w' := by
  obtain ⟨i0, hi, _, hz1, _⟩ := info_parts Low.info8
  have hcut := Low.cut_h (P := Try.prog) 24 5 Try.underlying24 hi hz1 Ad m.length cd k (by omega)
  have hml : m.length ≤ 9223372036854775807 := by omega
  have hC := Lib.hid (And.intro h1 h2)
  clear h1 h2 hi hz1
  go_enter Try.func35, Try.ntmps35
  go_upto_region 4 with (fail)
  generalize hWD : ((w.alloc (.cells _ 61)).alloc (.cells _ 77)).alloc (.cells _ 61) = WD
  obtain ⟨b3, hb3⟩ : ∃ b, b = w.heap.size := ⟨_, rfl⟩
  rw [← hb3]
  have HB := Lib.hid (show Below w.heap.size w WD by rw [← hWD]; exact below_alloc (below_alloc (below_alloc (Below.refl _ _) _) _) _)
  have HF : Hid (WD.heap[b3]? = some (.cells #[.slice s1.1 s1.2.1 s1.2.2, .slice s2.1 s2.2.1 s2.2.2, .slice Af l.length cf] 61 (0, 0))) := Lib.hid (by rw [← hWD, hb3]; exact blk_alloc (blk_alloc (blk_new _ _) _) _)
  have HO : Hid (WD.heap[b3 + 1]? = some (.cells #[.int .i64 2, .bool false, .int .i64 n, .slice Ad m.length cd] 77 (0, 0))) := Lib.hid (by rw [← hWD, hb3, ← World.size_alloc w (.cells #[.slice s1.1 s1.2.1 s1.2.2, .slice s2.1 s2.2.1 s2.2.2, .slice Af l.length cf] 61)]; exact blk_alloc (blk_new _ _) _)
  have HR6 : Hid (WD.heap[b3 + 1 + 1]? = some (.cells #[.slice none 0 0, .slice none 0 0, .slice none 0 0] 61 (0, 0))) := Lib.hid (by
    have e : ∀ x y : Obj, ((w.alloc x).alloc y).heap.size = w.heap.size + 1 + 1 := fun x y => by simp only [World.size_alloc]
    rw [← hWD, hb3, ← e]
    exact blk_new _ _)
  have HG := Lib.hid (show w.heap.size ≤ b3 by omega)
  have HBr := Lib.hid (below_drew1 (Below.refl WD.heap.size WD))
  have HQ1 := Lib.hid (fun (W : World) (hW : Below WD.heap.size WD W) => (blk_cell (blk_below HO.out hW) 0).trans (show _ = some (.int .i64 2) from rfl))
  have HQ2 := Lib.hid (fun (W : World) (hW : Below WD.heap.size WD W) => (blk_cell (blk_below HO.out hW) 3).trans (show _ = some (.slice Ad m.length cd) from rfl))
  have HQ3 := Lib.hid (fun (W : World) (hW : Below WD.heap.size WD W) => (blk_cell (blk_below HF.out hW) 2).trans (show _ = some (.slice Af l.length cf) from rfl))
  have etk : (m.take k).length = k := by rw [List.length_take]; omega
  have HA := Lib.hid (fun (W : World) (hW : Below WD.heap.size WD W) => (show Kd.C ku8 W Af l.length l ∧ Kd.C ku8 W Ad (m.take k).length (m.take k) from ⟨Kd.C_below (Kd.C_below hC.out.1 HB.out) hW, by rw [etk]; exact Low.take_C (Kd.C_below (Kd.C_below hC.out.2 HB.out) hW) k hk⟩))
  have HLen := Lib.hid (show l.length + (m.take k).length ≤ 4398046511104 by rw [etk]; omega)
  have hkc : k ≤ cd := by omega
  have HEk := Lib.hid etk
  obtain ⟨N, hN⟩ : ∃ N, N = (l ++ m.take k).length := ⟨_, rfl⟩
  have HN := Lib.hid hN
  clear hWD hb3 hk etk hN
  refine start_ (n := 18) (S := fun w' => w'.cell? ⟨b3 + 1, 0, none⟩ = some (.int .i64 2) ∧ w'.cell? ⟨b3 + 1, 3, none⟩ = some (.slice Ad m.length cd) ∧ w'.cell? ⟨b3, 2, none⟩ = some (.slice Af l.length cf)) (ds := [17]) #[false, false, false, false, false, false, false, false, false, false, false, false, false, false, false, false, false, false] (by kernel_rfl) rfl rfl ⟨HQ1.out _ HBr.out, HQ2.out _ HBr.out, HQ3.out _ HBr.out⟩ (fun hHeld => ?_)
  refine with_tabW file_doneA.tab4 file_doneA.bits4 (fun HT_ HW_ => ?_)
  refine pure_ (i := 0) (N := some 20) (v := ?_) (a' := ?_) #[true, false, false, false, false, false, false, false, false, false, false, false, false, false, false, false, false, false] rfl rfl (any_of HT_.out (by kernel_rfl)) (fun _ _ _ h => h) (Or.inl ⟨by rfl, ?_⟩) ?_ ?_
  rotate_left
  · intro w'
    go_simp
    with_reducible rfl
  rotate_left
  · simp only [Act.put, List.setIfInBounds_toArray, List.set_cons_zero, List.set_cons_succ, i64_w, i32_w]
    rfl
  refine pure_ (i := 2) (N := some 22) (v := ?_) (a' := ?_) #[true, false, true, false, false, false, false, false, false, false, false, false, false, false, false, false, false, false] rfl rfl (any_of HT_.out (by kernel_rfl)) (fun _ _ _ h => h) (Or.inl ⟨by rfl, ?_⟩) ?_ ?_
  rotate_left
  · intro w'
    go_simp
    with_reducible rfl
  rotate_left
  · simp only [Act.put, List.setIfInBounds_toArray, List.set_cons_zero, List.set_cons_succ, i64_w, i32_w]
    rfl
  refine pure_ (i := 6) (N := some 26) (v := ?_) (a' := ?_) #[true, false, true, false, false, false, true, false, false, false, false, false, false, false, false, false, false, false] rfl rfl (any_of HT_.out (by kernel_rfl)) (fun _ _ _ h => h) (Or.inl ⟨by rfl, ?_⟩) ?_ ?_
  rotate_left
  · intro w'
    go_simp
    with_reducible rfl
  rotate_left
  · simp only [Act.put, List.setIfInBounds_toArray, List.set_cons_zero, List.set_cons_succ, i64_w, i32_w]
    rfl
  refine pure_ (i := 8) (N := some 28) (v := ?_) (a' := ?_) #[true, false, true, false, false, false, true, false, true, false, false, false, false, false, false, false, false, false] rfl rfl (any_of HT_.out (by kernel_rfl)) (fun _ _ _ h => h) (Or.inl ⟨by rfl, ?_⟩) ?_ ?_
  rotate_left
  · intro w'
    go_simp
    with_reducible rfl
  rotate_left
  · simp only [Act.put, List.setIfInBounds_toArray, List.set_cons_zero, List.set_cons_succ, i64_w, i32_w]
    rfl
  refine pure_ (i := 9) (N := some 29) (v := ?_) (a' := ?_) #[true, false, true, false, false, false, true, false, true, true, false, false, false, false, false, false, false, false] rfl rfl (any_of HT_.out (by kernel_rfl)) (fun _ _ _ h => h) (Or.inl ⟨by rfl, ?_⟩) ?_ ?_
  rotate_left
  · intro w'
    go_simp
    with_reducible rfl
  rotate_left
  · simp only [Act.put, List.setIfInBounds_toArray, List.set_cons_zero, List.set_cons_succ, i64_w, i32_w]
    rfl
  refine take_ (i := 1) (N := some 21) (v := ?_) (a' := ?_) #[true, true, true, false, false, false, true, false, true, true, false, false, false, false, false, false, false, false] rfl rfl (take_ofW HT_.out HW_.out (by kernel_rfl)) (fun _ _ _ h => h) (Or.inl ⟨by rfl, ?_⟩) hHeld ?_ ?_
  rotate_left
  · rintro w' ⟨s0, s1, s2⟩
    go_simp
    with_reducible rfl
  rotate_left
  · simp only [Act.put, List.setIfInBounds_toArray, List.set_cons_zero, List.set_cons_succ, i64_w, i32_w]
    rfl
  refine take_ (i := 3) (N := some 23) (v := ?_) (a' := ?_) #[true, true, true, true, false, false, true, false, true, true, false, false, false, false, false, false, false, false] rfl rfl (take_ofW HT_.out HW_.out (by kernel_rfl)) (fun _ _ _ h => h) (Or.inl ⟨by rfl, ?_⟩) hHeld ?_ ?_
  rotate_left
  · rintro w' ⟨s0, s1, s2⟩
    go_simp
    with_reducible rfl
  rotate_left
  · simp only [Act.put, List.setIfInBounds_toArray, List.set_cons_zero, List.set_cons_succ, i64_w, i32_w]
    rfl
  refine pure_ (i := 4) (N := some 24) (v := ?_) (a' := ?_) #[true, true, true, true, true, false, true, false, true, true, false, false, false, false, false, false, false, false] rfl rfl (any_of HT_.out (by kernel_rfl)) (fun _ _ _ h => h) (Or.inl ⟨by rfl, ?_⟩) ?_ ?_
  rotate_left
  · intro w'
    go_simp
    with_reducible rfl
  rotate_left
  · simp only [Act.put, List.setIfInBounds_toArray, List.set_cons_zero, List.set_cons_succ, i64_w, i32_w]
    rfl
  refine take_ (i := 5) (N := some 25) (v := ?_) (a' := ?_) #[true, true, true, true, true, true, true, false, true, true, false, false, false, false, false, false, false, false] rfl rfl (take_ofW HT_.out HW_.out (by kernel_rfl)) (fun _ _ _ h => h) (Or.inl ⟨by rfl, ?_⟩) hHeld ?_ ?_
  rotate_left
  · rintro w' ⟨s0, s1, s2⟩
    go_simp
    with_reducible rfl
  rotate_left
  · simp only [Act.put, List.setIfInBounds_toArray, List.set_cons_zero, List.set_cons_succ, i64_w, i32_w]
    rfl
  refine take_ (i := 7) (N := some 27) (v := ?_) (a' := ?_) #[true, true, true, true, true, true, true, true, true, true, false, false, false, false, false, false, false, false] rfl rfl (take_ofW HT_.out HW_.out (by kernel_rfl)) (fun _ _ _ h => h) (Or.inl ⟨by rfl, ?_⟩) hHeld ?_ ?_
  rotate_left
  · rintro w' ⟨s0, s1, s2⟩
    go_simp
    with_reducible rfl
  rotate_left
  · simp only [Act.put, List.setIfInBounds_toArray, List.set_cons_zero, List.set_cons_succ, i64_w, i32_w]
    rfl
  refine take_ (i := 10) (N := some 30) (v := ?_) (a' := ?_) #[true, true, true, true, true, true, true, true, true, true, true, false, false, false, false, false, false, false] rfl rfl (take_ofW HT_.out HW_.out (by kernel_rfl)) (fun _ _ _ h => h) (Or.inl ⟨by rfl, ?_⟩) hHeld ?_ ?_
  rotate_left
  · rintro w' ⟨s0, s1, s2⟩
    go_simp
    with_reducible rfl
  rotate_left
  · simp only [Act.put, List.setIfInBounds_toArray, List.set_cons_zero, List.set_cons_succ, i64_w, i32_w]
    rfl
  refine pure_ (i := 11) (N := some 31) (v := ?_) (a' := ?_) #[true, true, true, true, true, true, true, true, true, true, true, true, false, false, false, false, false, false] rfl rfl (any_of HT_.out (by kernel_rfl)) (fun _ _ _ h => h) (Or.inl ⟨by rfl, ?_⟩) ?_ ?_
  rotate_left
  · intro w'
    go_simp
    with_reducible rfl
  rotate_left
  · simp only [Act.put, List.setIfInBounds_toArray, List.set_cons_zero, List.set_cons_succ, i64_w, i32_w]
    rfl
  refine pure_ (i := 12) (N := some 32) (v := ?_) (a' := ?_) #[true, true, true, true, true, true, true, true, true, true, true, true, true, false, false, false, false, false] rfl rfl (any_of HT_.out (by kernel_rfl)) (fun _ _ _ h => h) (Or.inl ⟨by rfl, ?_⟩) ?_ ?_
  rotate_left
  · intro w'
    go_simp
    with_reducible rfl
  rotate_left
  · simp only [Act.put, List.setIfInBounds_toArray, List.set_cons_zero, List.set_cons_succ, i64_w, i32_w]
    rfl
  refine pure_ (i := 13) (N := some 33) (v := ?_) (a' := ?_) #[true, true, true, true, true, true, true, true, true, true, true, true, true, true, false, false, false, false] rfl rfl (any_of HT_.out (by kernel_rfl)) (fun _ _ _ h => h) (Or.inl ⟨by rfl, ?_⟩) ?_ ?_
  rotate_left
  · intro w'
    go_simp
    with_reducible rfl
  rotate_left
  · simp only [Act.put, List.setIfInBounds_toArray, List.set_cons_zero, List.set_cons_succ, i64_w, i32_w]
    rfl
  refine one_ (i := 14) (N := some 34) #[true, true, true, true, true, true, true, true, true, true, true, true, true, true, true, false, false, false] rfl rfl (one_of HT_.out (by kernel_rfl)) (by decide) (fun K hK => ?_)
  refine value_ (w1 := ?_) (v := ?_) (by rfl) rfl ?_ ?_
  rotate_left 2
  · go_simp
    constructor
    · rfl
    · rfl
  have HRow := Lib.hid (show ((WD.alloc (.cells #[.slice Af l.length cf, .slice Ad k cd] 24)).drew).heap[WD.heap.size]? = some (.cells #[.slice Af l.length cf, .slice Ad k cd] 24 (0, 0)) from blk_new WD.drew (.cells #[.slice Af l.length cf, .slice Ad k cd] 24))
  replace HBr := Lib.hid (below_drew1 (below_alloc (Below.refl WD.heap.size WD) (.cells #[.slice Af l.length cf, .slice Ad k cd] 24)))
  have HCo := Lib.hid (concat_k HEk.out HRow.out (HA.out _ HBr.out).1 (HA.out _ HBr.out).2 HLen.out)
  refine hK.out _ _ ⟨HQ1.out _ HBr.out, HQ2.out _ HBr.out, HQ3.out _ HBr.out⟩ (fun hHeld => ?_)
  clear hK K
  refine norm_ (a' := ?_) ?_ ?_
  rotate_left
  · show Act.put _ (some 34) _ = _
    simp only [Act.put, List.setIfInBounds_toArray, List.set_cons_zero, List.set_cons_succ, i64_w, i32_w]
    rfl
  refine one_ (i := 15) (N := some 35) #[true, true, true, true, true, true, true, true, true, true, true, true, true, true, true, true, false, false] rfl rfl (one_of HT_.out (by kernel_rfl)) (by decide) (fun K hK => ?_)
  refine goes_ Try.func51 (by kernel_rfl) rfl #[.slice (some ⟨WD.heap.size, 0, none⟩) 2 2] (by rfl) rfl rfl (by simp only [List.map_toArray, List.map_cons, List.map_nil]; rfl) ?_
  with_reducible refine (HCo.out).mono ?_
  rintro e w8 ⟨A8, c8, he8, hR8, hb8⟩
  rw [← HN.out] at he8
  subst he8
  refine ⟨_, rfl, ?_⟩
  have HR8 := Lib.hid hR8
  have HS8 := Lib.hid HBr.out.size
  replace HBr := Lib.hid (below_then HBr.out HBr.out.size hb8)
  have z8 : w8.frozen? ⟨b3, 2, none⟩ = false := blk_frozen (blk_below HF.out HBr.out) 2
  clear hR8 hb8
  refine hK.out _ _ ⟨HQ1.out _ HBr.out, HQ2.out _ HBr.out, HQ3.out _ HBr.out⟩ (fun hHeld => ?_)
  clear hK K
  refine norm_ (a' := ?_) ?_ ?_
  rotate_left
  · show Act.put _ (some 35) _ = _
    simp only [Act.put, List.setIfInBounds_toArray, List.set_cons_zero, List.set_cons_succ, i64_w, i32_w]
    rfl
  refine pure_ (i := 16) (N := some 36) (v := ?_) (a' := ?_) #[true, true, true, true, true, true, true, true, true, true, true, true, true, true, true, true, true, false] rfl rfl (any_of HT_.out (by kernel_rfl)) (fun _ _ _ h => h) (Or.inl ⟨by rfl, ?_⟩) ?_ ?_
  rotate_left
  · intro w'
    go_simp
    with_reducible rfl
  rotate_left
  · simp only [Act.put, List.setIfInBounds_toArray, List.set_cons_zero, List.set_cons_succ, i64_w, i32_w]
    rfl
  refine last_ (i := 17) (N := none) #[true, true, true, true, true, true, true, true, true, true, true, true, true, true, true, true, true, true] rfl rfl (one_of HT_.out (by kernel_rfl)) (by decide) (fun K hK => ?_)
  refine skip_ (w1 := ?_) (by rfl) rfl ?_ ?_
  rotate_left
  · go_simp
    rfl
  refine hK.out _ _ ?_
  clear hK K
  refine done_ (done_of HT_.out (by kernel_rfl)) ?_
  
  clear HA HEk HCo HRow hcut hml HLen hkc HQ1 HQ2 HQ3
  generalize hW5 : w8.setCell ⟨b3, 2, none⟩ (.slice A8 N c8) = W5
  have HF8 := Lib.hid (blk_below HF.out HBr.out)
  have HF5 : Hid (W5.heap[b3]? = some (.cells #[.slice s1.1 s1.2.1 s1.2.2, .slice s2.1 s2.2.1 s2.2.2, .slice A8 N c8] 61 (0, 0))) := Lib.hid (by rw [← hW5]; exact blk_set HF8.out 2 _)
  have HR5 : Hid (W5.heap[b3 + 1 + 1]? = some (.cells #[.slice none 0 0, .slice none 0 0, .slice none 0 0] 61 (0, 0))) := Lib.hid (by rw [← hW5]; exact blk_far (blk_below HR6.out HBr.out) (by show b3 + 1 + 1 ≠ b3; omega) _)
  have HB5 : Hid (Below w.heap.size w W5) := Lib.hid (by rw [← hW5]; exact (below_then HB.out HB.out.size HBr.out).setCell HG.out _)
  have HN5 : Hid (Kd.R ku8 5 W5 w.heap.size (fun _ => True) (.slice A8 N c8) (l ++ m.take k)) := Lib.hid (by
    rw [← hW5]
    have h8 := HR8.out
    rw [← HN.out] at h8
    exact Kd.R_lower (Kd.R_set h8 HF8.out (by decide) 2 _) (Nat.le_trans HB.out.size (by simp [World.size_alloc])))
  clear hW5 z8 HR8 HF8 HS8
  have hld := run_loadVar_row (P := Try.prog) W5 b3 61 61 #[.slice s1.1 s1.2.1 s1.2.2, .slice s2.1 s2.2.1 s2.2.2, .slice A8 N c8] (0, 0) _ HF5.out Try.underlying61 rfl infoFs
  have HL : Hid ((Instr.loadAt 61 (.pointer (some ⟨b3, 0, none⟩))).run Try.prog W5 = .ok (.agg #[.slice s1.1 s1.2.1 s1.2.2, .slice s2.1 s2.2.1 s2.2.2, .slice A8 N c8]) W5) := Lib.hid (by simp only [Instr.loadAt, Instr.sureAddr, Sem.run_bind, Sem.run_pure, Result.andThen_ok, hld])
  clear hld
  go_wp2_with (first | (refine wl_load 61 (.tmp 3) rfl rfl _ _ rfl HL.out ?_) | (refine wl_store 61 (.tmp 6) (.tmp 37) rfl rfl rfl rfl HR5.out infoFs rfl (by simp [Value.oneCell']) ?_))
  refine bodyPost_ret (results_cell_row rfl _ _ (b3 + 1 + 1) 61 #[.slice s1.1 s1.2.1 s1.2.2, .slice s2.1 s2.2.1 s2.2.2, .slice A8 N c8] (0, 0) _ rfl (setRow_heap _ _ _ _ _ _ HR5.out) Try.underlying61 rfl infoFs) rfl ?_
  rw [← HN.out]
  refine ⟨A8, c8, rfl, ?_, below_setRow HB5.out (Nat.le_trans HG.out (by omega)) _⟩
  exact Kd.R_mono (Kd.R_step (Kd.R_types HN5.out HR5.out (by decide)) (fun k hk _ => setRow_other _ _ _ _ hk.2)) (fun _ _ => trivial)
end Go.Proofs.Ytfggcdpipolahaa.PF
