/- The document's disk beside the program's: Append, Cut, Sync, Crash. -/
import Derived.Test.YtfggcdpipolahaaFiRefE
set_option linter.unusedVariables false
set_option linter.unusedSimpArgs false
namespace Go.Proofs.Ytfggcdpipolahaa.PF
open Go.RowKit Go.Proofs.YtfggcdpipolahaaW.PrintWords Go.Proofs.YtfggcdpipolahaaW.PrintLast Go.Proofs.YtfggcdpipolahaaW.PrintMore
attribute [local go_sem] max2_int min2_int max_two min_two
def ref_Append.T5 : Bool × List (List Nat × List Nat) := (true, [([], []), ([], []), ([], []), ([2], [2]), ([1, 3], [1, 3]), ([0, 4, 3], [0, 4]), ([5], [5]), ([5], [5]), ([6, 5, 0, 1, 2, 3, 4, 5, 6, 7], [6]), ([7, 8, 0, 1, 2, 3, 4, 5, 6, 7, 8], [7])])
def ref_Append.B5 : List Nat := [0, 0, 0, 4, 14, 31, 63, 63, 255, 511]
theorem ref_Append.tab5 : rtab .any (opsOf Try.f40 5) = ref_Append.T5 := by kernel_rfl
theorem ref_Append.bits5 : waitsOk ref_Append.T5.2 ref_Append.B5 = true := by kernel_rfl
set_option maxRecDepth 100000 in
set_option maxHeartbeats 8000000 in
theorem appendR_calls {j n : Nat} {ok : Nat → Prop} {w : World} {r : RD} {a : ADk} (h : DR j ok w r a) (hj : j ≤ 1000) (hg : Good n a) (hn : n ≤ 1099511627776) (f : Int) (A : Option Addr) (x : List Int) (c : Nat) (hx : Kd.C ku8 w A x.length x) (hxl : x.length ≤ 4398046511104) :
    Calls Try.prog 40 #[.agg r.cells, .int .i64 f, .slice A x.length c] w (PostD (j + 1) w ok (a.append f x)) := by
  have HR := Lib.hid h
  have HM := Lib.hid (h.mem.elim fun rs hm => fun W (hb : Below w.heap.size w W) => nowR_calls (hm.below hb) hg.valid (Nat.le_trans hg.ops hn))
  have HD := Lib.hid (blk_alloc (blk_new w (.cells r.cells 53)) RZ)
  have HZ := Lib.hid (show ((w.alloc (.cells r.cells 53)).alloc RZ).heap[w.heap.size + 1]? = some (.cells rz 53 (0, 0)) by rw [← World.size_alloc w (.cells r.cells 53)]; exact blk_new _ _)
  have HB := Lib.hid (below_alloc (below_alloc (Below.refl w.heap.size w) (.cells r.cells 53)) RZ)
  have HNow := Lib.hid (show a.safe.play a.ops = a.now from hg.now.symm)
  have HLe := Lib.hid hg.nowLe
  have HGd := Lib.hid (And.intro hj (And.intro hg hn))
  have HX := Lib.hid (And.intro hx hxl)
  unfold ADk.append
  clear h hj hg hn hx hxl
  by_cases h0 : 0 ≤ f
  case neg =>
    rw [if_neg (by omega)]
    go_enter Try.func40, Try.ntmps40
    go_upto_region 1 with (fail)
    unfold RZ rz at HD HZ HB
    generalize (w.alloc (.cells r.cells 53)).alloc _ = W at HD HZ HB ⊢
    obtain ⟨g, hg⟩ : ∃ g, g = w.heap.size := ⟨_, rfl⟩
    rw [← hg] at HD HZ ⊢
    have HG := Lib.hid hg
    clear hg
    go_wp2_with (first | (refine wl_load 53 (.tmp 3) rfl rfl _ _ rfl (rd_ld HD.out) ?_) | (refine wl_store (old := rz) (cells := r.cells) 53 (.tmp 6) (.tmp 14) rfl rfl rfl rfl HZ.out infoRd rfl (by simp [Value.oneCell', RD.cells]) ?_) | fail)
    refine bodyPost_ret (results_ct rfl _ _ (g + 1) 53 r.cells (0, 0) _ rfl (setRow_heap _ _ _ _ _ _ HZ.out) Try.underlying53 rfl infoRd) rfl ?_
    have hbf := below_setRow HB.out (show w.heap.size ≤ g + 1 by have := HG.out; omega) r.cells
    exact ⟨r, rfl, ((HR.out.le (by omega)).below hbf).mono (fun _ h => .inl h), hbf⟩
  by_cases h3 : f < 3
  case neg =>
    rw [if_neg (by omega)]
    go_enter Try.func40, Try.ntmps40
    go_upto_region 1 with (fail)
    unfold RZ rz at HD HZ HB
    generalize (w.alloc (.cells r.cells 53)).alloc _ = W at HD HZ HB ⊢
    obtain ⟨g, hg⟩ : ∃ g, g = w.heap.size := ⟨_, rfl⟩
    rw [← hg] at HD HZ ⊢
    have HG := Lib.hid hg
    clear hg
    go_wp2_with (first | (refine wl_load 53 (.tmp 3) rfl rfl _ _ rfl (rd_ld HD.out) ?_) | (refine wl_store (old := rz) (cells := r.cells) 53 (.tmp 6) (.tmp 14) rfl rfl rfl rfl HZ.out infoRd rfl (by simp [Value.oneCell', RD.cells]) ?_) | fail)
    refine bodyPost_ret (results_ct rfl _ _ (g + 1) 53 r.cells (0, 0) _ rfl (setRow_heap _ _ _ _ _ _ HZ.out) Try.underlying53 rfl infoRd) rfl ?_
    have hbf := below_setRow HB.out (show w.heap.size ≤ g + 1 by have := HG.out; omega) r.cells
    exact ⟨r, rfl, ((HR.out.le (by omega)).below hbf).mono (fun _ h => .inl h), hbf⟩
  obtain ⟨m, rfl⟩ : ∃ m : Nat, f = m := ⟨f.toNat, by omega⟩
  have hm3 : m < 3 := by omega
  rw [if_pos ⟨h0, h3⟩, Int.toNat_natCast]
  have hge : ¬ 3 ≤ (m : Int) := by omega
  obtain ⟨L, hL⟩ : ∃ L, L = (a.now.get m).length := ⟨_, rfl⟩
  obtain ⟨X, hX⟩ : ∃ X, X = x.length := ⟨_, rfl⟩
  rw [← hL, ← hX]
  have HL := Lib.hid (And.intro hL hX)
  have hb20 : L ≤ 1048576 := by rw [hL]; exact HLe.out.get m
  have hb42 : X ≤ 4398046511104 := by rw [hX]; exact HX.out.2
  have hw : IntKind.i64.wrap ((L : Int) + (X : Int)) = (L : Int) + (X : Int) := by rw [IntKind.wrap_i64]; omega
  clear hL hX
  by_cases hc : 1048576 < L + X
  · rw [if_pos hc]
    have hci : (1048576 : Int) < (L : Int) + (X : Int) := by omega
    clear hc
    go_enter Try.func40, Try.ntmps40
    go_upto_region 1 with (fail)
    unfold RZ rz at HD HZ HB
    generalize (w.alloc (.cells r.cells 53)).alloc _ = W at HD HZ HB ⊢
    obtain ⟨g, hg⟩ : ∃ g, g = w.heap.size := ⟨_, rfl⟩
    rw [← hg] at HD HZ ⊢
    have HG := Lib.hid hg
    clear hg
    go_upto_region 4 with (first | (refine wl_load 53 (.tmp 3) rfl rfl _ _ rfl (rd_ld HD.out) ?_) | (refine (HM.out _ HB.out).mono ?_; rintro e w1 ⟨s, rfl, hs, hb⟩; have hix := fun u => s3_ix s m hm3 u; have e1 := (hs.get m).reads.1; rw [HNow.out, ← HL.out.1] at e1; rw [e1] at hix; have HD1 := Lib.hid (blk_below HD.out hb); have HZ1 := Lib.hid (blk_below HZ.out hb); have HB1 := Lib.hid (below_then HB.out HB.out.size hb); clear hs hb e1) | fail)
    go_wp2_with (first | (refine wl_load 53 (.tmp 3) rfl rfl _ _ rfl (rd_ld HD1.out) ?_) | (refine wl_store (old := rz) (cells := r.cells) 53 (.tmp 6) (.tmp 24) rfl rfl rfl rfl HZ1.out infoRd rfl (by simp [Value.oneCell', RD.cells]) ?_) | fail)
    refine bodyPost_ret (results_ct rfl _ _ (g + 1) 53 r.cells (0, 0) _ rfl (setRow_heap _ _ _ _ _ _ HZ1.out) Try.underlying53 rfl infoRd) rfl ?_
    have hbf := below_setRow HB1.out (show w.heap.size ≤ g + 1 by have := HG.out; omega) r.cells
    exact ⟨r, rfl, ((HR.out.le (by omega)).below hbf).mono (fun _ h => .inl h), hbf⟩
  rw [if_neg hc]
  have hci : ¬ (1048576 : Int) < (L : Int) + (X : Int) := by omega
  clear hc
  go_enter Try.func40, Try.ntmps40
  go_upto_region 1 with (fail)
  unfold RZ rz at HD HZ HB
  generalize (w.alloc (.cells r.cells 53)).alloc _ = W at HD HZ HB ⊢
  obtain ⟨g, hg⟩ : ∃ g, g = w.heap.size := ⟨_, rfl⟩
  rw [← hg] at HD HZ ⊢
  have HG := Lib.hid hg
  clear hg
  go_upto_region 5 with (first | (refine wl_load 53 (.tmp 3) rfl rfl _ _ rfl (rd_ld HD.out) ?_) | (refine (HM.out _ HB.out).mono ?_; rintro e w1 ⟨s, rfl, hs, hb⟩; have hix := fun u => s3_ix s m hm3 u; have e1 := (hs.get m).reads.1; rw [HNow.out, ← HL.out.1] at e1; rw [e1] at hix; have HD1 := Lib.hid (blk_below HD.out hb); have HZ1 := Lib.hid (blk_below HZ.out hb); have HB1 := Lib.hid (below_then HB.out HB.out.size hb); clear hs hb e1) | fail)
  have HCp := Lib.hid (show Calls Try.prog 54 #[.slice A X c] w1.drew _ by
    have := Low.copy_calls A c x w1.drew (Kd.C_below HX.out.1 HB1.out.drew) (by have := HX.out.2; omega)
    rw [← HL.out.2] at this
    exact this)
  have HRd := Lib.hid (rd_ld (blk_drew HD1.out))
  clear hix hw hci
  refine start_ (n := 10) (S := fun w' => (Instr.loadAt 53 (.pointer (some ⟨g, 0, none⟩))).run Try.prog w' = .ok (.agg r.cells) w') (ds := [8]) #[false, false, false, false, false, false, false, false, false, false] (by kernel_rfl) rfl rfl (HRd.out) (fun hHeld => ?_)
  refine with_tabW ref_Append.tab5 ref_Append.bits5 (fun HT_ HW_ => ?_)
  refine pure_ (i := 1) (N := some 26) (v := ?_) (a' := ?_) #[false, true, false, false, false, false, false, false, false, false] rfl rfl (any_of HT_.out (by kernel_rfl)) (fun _ _ _ h => h) (Or.inl ⟨by rfl, ?_⟩) ?_ ?_
  rotate_left
  · intro w'
    go_simp
    with_reducible rfl
  rotate_left
  · simp only [Act.put, List.setIfInBounds_toArray, List.set_cons_zero, List.set_cons_succ, i64_w, i32_w]
    rfl
  refine pure_ (i := 2) (N := some 27) (v := ?_) (a' := ?_) #[false, true, true, false, false, false, false, false, false, false] rfl rfl (any_of HT_.out (by kernel_rfl)) (fun _ _ _ h => h) (Or.inl ⟨by rfl, ?_⟩) ?_ ?_
  rotate_left
  · intro w'
    go_simp
    with_reducible rfl
  rotate_left
  · simp only [Act.put, List.setIfInBounds_toArray, List.set_cons_zero, List.set_cons_succ, i64_w, i32_w]
    rfl
  refine take_ (i := 0) (N := some 25) (v := ?_) (a' := ?_) #[true, true, true, false, false, false, false, false, false, false] rfl rfl (take_ofW HT_.out HW_.out (by kernel_rfl)) (fun _ _ _ h => h) (Or.inl ⟨by rfl, ?_⟩) hHeld ?_ ?_
  rotate_left
  · intro w' s0
    refine Eq.trans (exec_load (by rfl) (by rfl) s0) ?_
    with_reducible rfl
  rotate_left
  · simp only [Act.put, List.setIfInBounds_toArray, List.set_cons_zero, List.set_cons_succ, i64_w, i32_w]
    rfl
  refine one_ (i := 3) (N := some 28) #[true, true, true, true, false, false, false, false, false, false] rfl rfl (one_of HT_.out (by kernel_rfl)) (by decide) (fun K hK => ?_)
  refine goes_ Try.func54 (by kernel_rfl) rfl #[.slice A X c] (by rfl) rfl rfl (by simp only [List.map_toArray, List.map_cons, List.map_nil]; rfl) ?_
  with_reducible refine (HCp.out).mono ?_
  rintro e w4 ⟨v0, rfl, ho, hb⟩
  refine ⟨_, rfl, ?_⟩
  obtain ⟨A5, c5, hv⟩ := Kd.R_slice ho
  rw [← HL.out.2] at hv
  subst hv
  have HR5 := Lib.hid (show By _ w4 (A5, X, c5) _ from R_newBy (ok := fun k => ok k ∨ w.heap.size ≤ k) ho)
  have HD4 := Lib.hid (blk_below (blk_drew HD1.out) hb)
  have HZ4 := Lib.hid (blk_below (blk_drew HZ1.out) hb)
  have HB4 := Lib.hid (below_then HB1.out.drew HB1.out.drew.size hb)
  have HWi := Lib.hid (show Calls Try.prog 56 #[.agg r.cells, .agg #[.int .i64 m, .bool false, .int .i64 0, .slice A5 X c5]] w4 (PostD (j + 1) w4 (fun k => ok k ∨ w.heap.size ≤ k) (a.does ⟨m, false, 0, x⟩)) from withR_calls (o := ⟨m, false, 0, x⟩) ((HR.out.below HB4.out).mono (ok' := fun k => ok k ∨ w.heap.size ≤ k) (fun _ h => .inl h)) HGd.out.1 HGd.out.2.1 HGd.out.2.2 (A5, X, c5) (HR5.out.mono (fun k hk => hk.elim id (fun h => .inr (Nat.le_trans HB1.out.drew.size h)))))
  clear ho hb
  refine hK.out _ _ (rd_ld HD4.out) (fun hHeld => ?_)
  clear hK K
  refine norm_ (a' := ?_) ?_ ?_
  rotate_left
  · show Act.put _ (some 28) _ = _
    simp only [Act.put, List.setIfInBounds_toArray, List.set_cons_zero, List.set_cons_succ, i64_w, i32_w]
    rfl
  refine pure_ (i := 4) (N := some 29) (v := ?_) (a' := ?_) #[true, true, true, true, true, false, false, false, false, false] rfl rfl (any_of HT_.out (by kernel_rfl)) (fun _ _ _ h => h) (Or.inl ⟨by rfl, ?_⟩) ?_ ?_
  rotate_left
  · intro w'
    go_simp
    with_reducible rfl
  rotate_left
  · simp only [Act.put, List.setIfInBounds_toArray, List.set_cons_zero, List.set_cons_succ, i64_w, i32_w]
    rfl
  refine one_ (i := 5) (N := some 30) #[true, true, true, true, true, true, false, false, false, false] rfl rfl (one_of HT_.out (by kernel_rfl)) (by decide) (fun K hK => ?_)
  refine goes_ Try.func56 (by kernel_rfl) rfl #[.agg r.cells, .agg #[.int .i64 m, .bool false, .int .i64 0, .slice A5 X c5]] (by rfl) rfl rfl (by simp only [List.map_toArray, List.map_cons, List.map_nil]; rfl) ?_
  with_reducible refine (HWi.out).mono ?_
  rintro e w6 ⟨q, rfl, hq, hb⟩
  refine ⟨_, rfl, ?_⟩
  have HQ6 := Lib.hid hq
  have HZ6 := Lib.hid (blk_below HZ4.out hb)
  have HD6 := Lib.hid (blk_below HD4.out hb)
  have HB6 := Lib.hid hb
  clear hq hb
  refine hK.out _ _ (rd_ld HD6.out) (fun hHeld => ?_)
  clear hK K
  refine norm_ (a' := ?_) ?_ ?_
  rotate_left
  · show Act.put _ (some 30) _ = _
    simp only [Act.put, List.setIfInBounds_toArray, List.set_cons_zero, List.set_cons_succ, i64_w, i32_w]
    rfl
  refine pure_ (i := 6) (N := some 31) (v := ?_) (a' := ?_) #[true, true, true, true, true, true, true, false, false, false] rfl rfl (any_of HT_.out (by kernel_rfl)) (fun _ _ _ h => h) (Or.inl ⟨by rfl, ?_⟩) ?_ ?_
  rotate_left
  · intro w'
    go_simp
    with_reducible rfl
  rotate_left
  · simp only [Act.put, List.setIfInBounds_toArray, List.set_cons_zero, List.set_cons_succ, i64_w, i32_w]
    rfl
  refine pure_ (i := 7) (N := some 32) (v := ?_) (a' := ?_) #[true, true, true, true, true, true, true, true, false, false] rfl rfl (any_of HT_.out (by kernel_rfl)) (fun _ _ _ h => h) (Or.inl ⟨by rfl, ?_⟩) ?_ ?_
  rotate_left
  · intro w'
    go_simp
    with_reducible rfl
  rotate_left
  · simp only [Act.put, List.setIfInBounds_toArray, List.set_cons_zero, List.set_cons_succ, i64_w, i32_w]
    rfl
  refine last_ (i := 8) (N := none) #[true, true, true, true, true, true, true, true, true, false] rfl rfl (one_of HT_.out (by kernel_rfl)) (by decide) (fun K hK => ?_)
  refine skip_ (w1 := ?_) (by rfl) rfl ?_ ?_
  rotate_left
  · refine exec_store (t := 53) (p := .tmp 6) (v := .tmp 31) (g := g + 1) (old := rz) (cells := q.cells) ?_ ?_ ?_ HZ6.out infoRd rfl (by simp [Value.oneCell', RD.cells])
    all_goals rfl
  refine hK.out _ _ ?_
  clear hK K
  refine pure_ (i := 9) (N := some 7) (v := ?_) (a' := ?_) #[true, true, true, true, true, true, true, true, true, true] rfl rfl (any_of HT_.out (by kernel_rfl)) (fun _ _ _ h => h) (Or.inl ⟨by rfl, ?_⟩) ?_ ?_
  rotate_left
  · intro w'
    go_simp
    with_reducible rfl
  rotate_left
  · simp only [Act.put, List.setIfInBounds_toArray, List.set_cons_zero, List.set_cons_succ, i64_w, i32_w]
    rfl
  refine done_ (done_of HT_.out (by kernel_rfl)) ?_
  
  go_wp2
  refine bodyPost_ret (results_ct rfl _ _ (g + 1) 53 q.cells (0, 0) _ rfl (setRow_heap _ _ _ _ _ _ HZ6.out) Try.underlying53 rfl infoRd) rfl ?_
  have hb6 := below_then HB4.out HB4.out.size HB6.out
  exact ⟨q, rfl, (HQ6.out.mono (fun k hk => hk.elim id (fun h => .inr (Nat.le_trans HB4.out.size h)))).box HZ6.out (by decide) (by decide) (grown_row _ _ (blk_lt HZ6.out)), below_setRow hb6 (show w.heap.size ≤ g + 1 by have := HG.out; omega) q.cells⟩
set_option maxRecDepth 100000 in
set_option maxHeartbeats 8000000 in
theorem cutR_calls {j n : Nat} {ok : Nat → Prop} {w : World} {r : RD} {a : ADk} (h : DR j ok w r a) (hj : j ≤ 1000) (hg : Good n a) (hn : n ≤ 1099511627776) (f N : Int) :
    Calls Try.prog 43 #[.agg r.cells, .int .i64 f, .int .i64 N] w (PostD (j + 1) w ok (a.cutTo f N)) := by
  have HR := Lib.hid h
  have HM := Lib.hid (h.mem.elim fun rs hm => fun W (hb : Below w.heap.size w W) => nowR_calls (hm.below hb) hg.valid (Nat.le_trans hg.ops hn))
  have HD := Lib.hid (blk_alloc (blk_new w (.cells r.cells 53)) RZ)
  have HZ := Lib.hid (show ((w.alloc (.cells r.cells 53)).alloc RZ).heap[w.heap.size + 1]? = some (.cells rz 53 (0, 0)) by rw [← World.size_alloc w (.cells r.cells 53)]; exact blk_new _ _)
  have HB := Lib.hid (below_alloc (below_alloc (Below.refl w.heap.size w) (.cells r.cells 53)) RZ)
  have HNow := Lib.hid (show a.safe.play a.ops = a.now from hg.now.symm)
  have HLe := Lib.hid hg.nowLe
  have HGd := Lib.hid (And.intro hj (And.intro hg hn))
  unfold ADk.cutTo
  clear h hj hg hn
  by_cases h0 : 0 ≤ f
  case neg =>
    rw [if_neg (by omega)]
    go_enter Try.func43, Try.ntmps43
    go_upto_region 1 with (fail)
    unfold RZ rz at HD HZ HB
    generalize (w.alloc (.cells r.cells 53)).alloc _ = W at HD HZ HB ⊢
    obtain ⟨g, hg⟩ : ∃ g, g = w.heap.size := ⟨_, rfl⟩
    rw [← hg] at HD HZ ⊢
    have HG := Lib.hid hg
    clear hg
    go_wp2_with (first | (refine wl_load 53 (.tmp 3) rfl rfl _ _ rfl (rd_ld HD.out) ?_) | (refine wl_store (old := rz) (cells := r.cells) 53 (.tmp 6) (.tmp 27) rfl rfl rfl rfl HZ.out infoRd rfl (by simp [Value.oneCell', RD.cells]) ?_) | fail)
    refine bodyPost_ret (results_ct rfl _ _ (g + 1) 53 r.cells (0, 0) _ rfl (setRow_heap _ _ _ _ _ _ HZ.out) Try.underlying53 rfl infoRd) rfl ?_
    have hbf := below_setRow HB.out (show w.heap.size ≤ g + 1 by have := HG.out; omega) r.cells
    exact ⟨r, rfl, ((HR.out.le (by omega)).below hbf).mono (fun _ h => .inl h), hbf⟩
  by_cases h3 : f < 3
  case neg =>
    rw [if_neg (by omega)]
    go_enter Try.func43, Try.ntmps43
    go_upto_region 1 with (fail)
    unfold RZ rz at HD HZ HB
    generalize (w.alloc (.cells r.cells 53)).alloc _ = W at HD HZ HB ⊢
    obtain ⟨g, hg⟩ : ∃ g, g = w.heap.size := ⟨_, rfl⟩
    rw [← hg] at HD HZ ⊢
    have HG := Lib.hid hg
    clear hg
    go_wp2_with (first | (refine wl_load 53 (.tmp 3) rfl rfl _ _ rfl (rd_ld HD.out) ?_) | (refine wl_store (old := rz) (cells := r.cells) 53 (.tmp 6) (.tmp 27) rfl rfl rfl rfl HZ.out infoRd rfl (by simp [Value.oneCell', RD.cells]) ?_) | fail)
    refine bodyPost_ret (results_ct rfl _ _ (g + 1) 53 r.cells (0, 0) _ rfl (setRow_heap _ _ _ _ _ _ HZ.out) Try.underlying53 rfl infoRd) rfl ?_
    have hbf := below_setRow HB.out (show w.heap.size ≤ g + 1 by have := HG.out; omega) r.cells
    exact ⟨r, rfl, ((HR.out.le (by omega)).below hbf).mono (fun _ h => .inl h), hbf⟩
  obtain ⟨m, rfl⟩ : ∃ m : Nat, f = m := ⟨f.toNat, by omega⟩
  have hm3 : m < 3 := by omega
  rw [if_pos ⟨h0, h3⟩, Int.toNat_natCast]
  have hge : ¬ 3 ≤ (m : Int) := by omega
  obtain ⟨L, hL⟩ : ∃ L, L = (a.now.get m).length := ⟨_, rfl⟩
  rw [← hL]
  have HL := Lib.hid hL
  have hb20 : L ≤ 1048576 := by rw [hL]; exact HLe.out.get m
  clear hL
  by_cases hN : N < 0
  · rw [if_pos (.inl hN)]
    go_enter Try.func43, Try.ntmps43
    go_upto_region 1 with (fail)
    unfold RZ rz at HD HZ HB
    generalize (w.alloc (.cells r.cells 53)).alloc _ = W at HD HZ HB ⊢
    obtain ⟨g, hg⟩ : ∃ g, g = w.heap.size := ⟨_, rfl⟩
    rw [← hg] at HD HZ ⊢
    have HG := Lib.hid hg
    clear hg
    go_wp2_with (first | (refine wl_load 53 (.tmp 3) rfl rfl _ _ rfl (rd_ld HD.out) ?_) | (refine wl_store (old := rz) (cells := r.cells) 53 (.tmp 6) (.tmp 27) rfl rfl rfl rfl HZ.out infoRd rfl (by simp [Value.oneCell', RD.cells]) ?_) | fail)
    refine bodyPost_ret (results_ct rfl _ _ (g + 1) 53 r.cells (0, 0) _ rfl (setRow_heap _ _ _ _ _ _ HZ.out) Try.underlying53 rfl infoRd) rfl ?_
    have hbf := below_setRow HB.out (show w.heap.size ≤ g + 1 by have := HG.out; omega) r.cells
    exact ⟨r, rfl, ((HR.out.le (by omega)).below hbf).mono (fun _ h => .inl h), hbf⟩
  by_cases hc : (L : Int) < N
  · rw [if_pos (.inr hc)]
    go_enter Try.func43, Try.ntmps43
    go_upto_region 1 with (fail)
    unfold RZ rz at HD HZ HB
    generalize (w.alloc (.cells r.cells 53)).alloc _ = W at HD HZ HB ⊢
    obtain ⟨g, hg⟩ : ∃ g, g = w.heap.size := ⟨_, rfl⟩
    rw [← hg] at HD HZ ⊢
    have HG := Lib.hid hg
    clear hg
    go_upto_region 2 with (first | (refine gate_guard (by rfl) ?_; dsimp only; refine wl_load 53 (.tmp 3) rfl rfl _ _ rfl (rd_ld HD.out) ?_) | (refine (HM.out _ HB.out).mono ?_; rintro e w1 ⟨s, rfl, hs, hb⟩; have hix := fun u => s3_ix s m hm3 u; have e1 := (hs.get m).reads.1; rw [HNow.out, ← HL.out] at e1; rw [e1] at hix; have HD1 := Lib.hid (blk_below HD.out hb); have HZ1 := Lib.hid (blk_below HZ.out hb); have HB1 := Lib.hid (below_then HB.out HB.out.size hb); clear hs hb e1) | fail)
    go_wp2_with (first | (refine wl_load 53 (.tmp 3) rfl rfl _ _ rfl (rd_ld HD1.out) ?_) | (refine wl_store (old := rz) (cells := r.cells) 53 (.tmp 6) (.tmp 27) rfl rfl rfl rfl HZ1.out infoRd rfl (by simp [Value.oneCell', RD.cells]) ?_) | fail)
    refine bodyPost_ret (results_ct rfl _ _ (g + 1) 53 r.cells (0, 0) _ rfl (setRow_heap _ _ _ _ _ _ HZ1.out) Try.underlying53 rfl infoRd) rfl ?_
    have hbf := below_setRow HB1.out (show w.heap.size ≤ g + 1 by have := HG.out; omega) r.cells
    exact ⟨r, rfl, ((HR.out.le (by omega)).below hbf).mono (fun _ h => .inl h), hbf⟩
  rw [if_neg (by omega)]
  obtain ⟨K, rfl⟩ : ∃ K : Nat, N = K := ⟨N.toNat, by omega⟩
  rw [Int.toNat_natCast]
  go_enter Try.func43, Try.ntmps43
  go_upto_region 1 with (fail)
  unfold RZ rz at HD HZ HB
  generalize (w.alloc (.cells r.cells 53)).alloc _ = W at HD HZ HB ⊢
  obtain ⟨g, hg⟩ : ∃ g, g = w.heap.size := ⟨_, rfl⟩
  rw [← hg] at HD HZ ⊢
  have HG := Lib.hid hg
  clear hg
  go_upto_region 3 with (first | (refine gate_guard (by rfl) ?_; dsimp only; refine wl_load 53 (.tmp 3) rfl rfl _ _ rfl (rd_ld HD.out) ?_) | (refine (HM.out _ HB.out).mono ?_; rintro e w1 ⟨s, rfl, hs, hb⟩; have hix := fun u => s3_ix s m hm3 u; have e1 := (hs.get m).reads.1; rw [HNow.out, ← HL.out] at e1; rw [e1] at hix; have HD1 := Lib.hid (blk_below HD.out hb); have HZ1 := Lib.hid (blk_below HZ.out hb); have HB1 := Lib.hid (below_then HB.out HB.out.size hb); clear hs hb e1) | fail)
  have HWi := Lib.hid (show Calls Try.prog 56 #[.agg r.cells, .agg #[.int .i64 m, .bool true, .int .i64 K, .slice none 0 0]] w1 (PostD (j + 1) w1 (fun k => ok k ∨ w.heap.size ≤ k) (a.does ⟨m, true, K, []⟩)) from withR_calls (o := ⟨m, true, K, []⟩) ((HR.out.below HB1.out).mono (ok' := fun k => ok k ∨ w.heap.size ≤ k) (fun _ h => .inl h)) HGd.out.1 HGd.out.2.1 HGd.out.2.2 (none, 0, 0) (By.nil _ _))
  clear hix
  go_wp2_with (first | (refine wl_load 53 (.tmp 3) rfl rfl _ _ rfl (rd_ld HD1.out) ?_) | (refine HWi.out.mono ?_; rintro e w6 ⟨q, rfl, hq, hb⟩; have HQ6 := Lib.hid hq; have HZ6 := Lib.hid (blk_below HZ1.out hb); have HB6 := Lib.hid hb; clear hq hb) | (refine wl_store (old := rz) (cells := q.cells) 53 (.tmp 6) (.tmp 33) rfl rfl rfl rfl HZ6.out infoRd rfl (by simp [Value.oneCell', RD.cells]) ?_) | fail)
  refine bodyPost_ret (results_ct rfl _ _ (g + 1) 53 q.cells (0, 0) _ rfl (setRow_heap _ _ _ _ _ _ HZ6.out) Try.underlying53 rfl infoRd) rfl ?_
  have hb6 := below_then HB1.out HB1.out.size HB6.out
  exact ⟨q, rfl, (HQ6.out.mono (fun k hk => hk.elim id (fun h => .inr (Nat.le_trans HB1.out.size h)))).box HZ6.out (by decide) (by decide) (grown_row _ _ (blk_lt HZ6.out)), below_setRow hb6 (show w.heap.size ≤ g + 1 by have := HG.out; omega) q.cells⟩
set_option maxRecDepth 100000 in
set_option maxHeartbeats 8000000 in
theorem syncR_calls {j n : Nat} {ok : Nat → Prop} {w : World} {r : RD} {a : ADk} (h : DR j ok w r a) (hj : j ≤ 1000) (hg : Good n a) (hn : n ≤ 1099511627776) :
    Calls Try.prog 44 #[.agg r.cells] w (PostD (j + 1) w ok a.sync) := by
  have HR := Lib.hid h
  have HGo := Lib.hid (h.go hj)
  have HOp := Lib.hid (fun W => op_calls r (h.nums hj) W)
  have HM := Lib.hid (h.mem.elim fun rs hm => fun W (hb : Below w.heap.size w W) => nowR_calls (hm.below hb) hg.valid (Nat.le_trans hg.ops hn))
  have HD := Lib.hid (blk_alloc (blk_new w (.cells r.cells 53)) RZ)
  have HZ := Lib.hid (show ((w.alloc (.cells r.cells 53)).alloc RZ).heap[w.heap.size + 1]? = some (.cells rz 53 (0, 0)) by rw [← World.size_alloc w (.cells r.cells 53)]; exact blk_new _ _)
  have HB := Lib.hid (below_alloc (below_alloc (Below.refl w.heap.size w) (.cells r.cells 53)) RZ)
  have HNow := Lib.hid (show a.safe.play a.ops = a.now from hg.now.symm)
  clear h hj hg hn
  go_enter Try.func44, Try.ntmps44
  go_upto_region 1 with (fail)
  unfold RZ rz at HD HZ HB
  generalize (w.alloc (.cells r.cells 53)).alloc _ = W at HD HZ HB ⊢
  obtain ⟨g, hg⟩ : ∃ g, g = w.heap.size := ⟨_, rfl⟩
  rw [← hg] at HD HZ ⊢
  have HG := Lib.hid hg
  clear hg
  go_wp2_with (first | (refine wl_load 53 (.tmp 1) rfl rfl _ _ rfl (rd_ld HD.out) ?_) | fail)
  refine (HOp.out _).mono ?_
  rintro e w1 ⟨rfl, hb1⟩
  have HD1 := Lib.hid (blk_below HD.out hb1)
  have HZ1 := Lib.hid (blk_below HZ.out hb1)
  have HB1 := Lib.hid (below_then HB.out HB.out.size hb1)
  clear hb1 HD HZ HOp
  obtain ⟨q, hq⟩ : ∃ q, q = r.go.1 := ⟨_, rfl⟩
  obtain ⟨z, hz⟩ : ∃ z, z = r.go.2 := ⟨_, rfl⟩
  rw [← hq, ← hz]
  have HQ := Lib.hid (And.intro hq hz)
  clear hq hz
  go_upto_region 2 with (first | (refine wl_store (old := rz) (cells := q.cells) 53 (.tmp 4) (.tmp 9) rfl rfl rfl rfl (blk_new w1 RZ) infoRd rfl (by simp [Value.oneCell', RD.cells]) ?_) | fail)
  have HT := Lib.hid (setRow_heap (w1.alloc RZ) w1.heap.size rz q.cells _ _ (blk_new w1 RZ))
  have HZ2 := Lib.hid ((setRow_other (w1.alloc RZ) w1.heap.size (g + 1) q.cells (by have := blk_lt HZ1.out; omega)).trans (blk_alloc HZ1.out RZ))
  have HD2 := Lib.hid ((setRow_other (w1.alloc RZ) w1.heap.size g q.cells (by have := blk_lt HD1.out; omega)).trans (blk_alloc HD1.out RZ))
  have HB2 := Lib.hid (below_setRow (below_alloc HB1.out RZ) HB1.out.size q.cells)
  have HG4 := Lib.hid (show w.heap.size ≤ w1.heap.size ∧ g + 1 ≠ w1.heap.size from ⟨HB1.out.size, by have := blk_lt HZ1.out; omega⟩)
  unfold RZ rz at HT HZ2 HD2 HB2
  generalize (w1.alloc _).setRow w1.heap.size q.cells = W2 at HT HZ2 HD2 HB2 ⊢
  obtain ⟨g4, hg4⟩ : ∃ x, x = w1.heap.size := ⟨_, rfl⟩
  rw [← hg4] at HT HG4 ⊢
  clear hg4 HD1 HZ1 HB1
  by_cases h0 : a.stop.2 = 0
  case neg =>
    have HE := Lib.hid (show a.sync = a.stop by unfold ADk.sync; rw [if_neg h0])
    have hne : (z != 0) = true := by rw [HQ.out.2, HGo.out.1]; simp [h0]
    clear h0
    go_wp2_with (first | (refine wl_load 53 (.tmp 4) rfl rfl _ _ rfl (rd_ld HT.out) ?_) | (refine wl_store (old := rz) (cells := q.cells) 53 (.tmp 2) (.tmp 13) rfl rfl rfl rfl HZ2.out infoRd rfl (by simp [Value.oneCell', RD.cells]) ?_) | fail)
    refine bodyPost_ret (results_ct rfl _ _ (g + 1) 53 q.cells (0, 0) _ rfl (setRow_heap _ _ _ _ _ _ HZ2.out) Try.underlying53 rfl infoRd) rfl ?_
    rw [HE.out, HQ.out.1, HQ.out.2, HGo.out.1]
    have hbf := below_setRow HB2.out (show w.heap.size ≤ g + 1 by have := HG.out; omega) q.cells
    rw [HQ.out.1] at hbf
    exact ⟨_, rfl, (HGo.out.2.below hbf).mono (fun _ => .inl), hbf⟩
  have HE := Lib.hid (show a.sync = ({ a.stop.1 with safe := a.now, ops := [] }, 0) by unfold ADk.sync; rw [if_pos h0])
  have hne : (z != 0) = false := by rw [HQ.out.2, HGo.out.1]; simp [h0]
  clear h0
  go_upto_region 5 with (first | (refine wl_load 53 (.tmp 1) rfl rfl _ _ rfl (rd_ld HD2.out) ?_) | (refine (HM.out _ HB2.out).mono ?_; rintro e w3 ⟨s, rfl, hs, hb⟩; have HS := Lib.hid hs; have HT3 := Lib.hid (blk_below HT.out hb); have HZ3 := Lib.hid (blk_below HZ2.out hb); have HB3 := Lib.hid (below_then HB2.out HB2.out.size hb); clear hs hb) | (refine wl_store3 (b := g4) (k := 0) (old := q.cells) 50 (.tmp 17) (.tmp 16) rfl rfl rfl rfl HT3.out info3b (show 0 + 3 ≤ 8 by decide) rfl rfl rfl ?_) | fail)
  have HT4 : Hid ((((w3.setCell ⟨g4, 0, none⟩ (.slice s.a.1 s.a.2.1 s.a.2.2)).setCell ⟨g4, 0 + 1, none⟩ (.slice s.b.1 s.b.2.1 s.b.2.2)).setCell ⟨g4, 0 + 1 + 1, none⟩ (.slice s.c.1 s.c.2.1 s.c.2.2)).heap[g4]? = some (.cells ({ q with f := s } : RD).cells 53 (0, 0))) := Lib.hid (blk_set (blk_set (blk_set HT3.out 0 _) (0 + 1) _) (0 + 1 + 1) _)
  have HZ4 : Hid ((((w3.setCell ⟨g4, 0, none⟩ (.slice s.a.1 s.a.2.1 s.a.2.2)).setCell ⟨g4, 0 + 1, none⟩ (.slice s.b.1 s.b.2.1 s.b.2.2)).setCell ⟨g4, 0 + 1 + 1, none⟩ (.slice s.c.1 s.c.2.1 s.c.2.2)).heap[g + 1]? = some (.cells #[.slice none 0 0, .slice none 0 0, .slice none 0 0, .slice none 0 0, .bool false, .int .i64 0, .int .i64 0, .int .i64 0] 53 (0, 0))) := Lib.hid (blk_far (blk_far (blk_far HZ3.out HG4.out.2 _) HG4.out.2 _) HG4.out.2 _)
  have HB4 := Lib.hid (((HB3.out.setCell (p := ⟨g4, 0, none⟩) HG4.out.1 (.slice s.a.1 s.a.2.1 s.a.2.2)).setCell (p := ⟨g4, 0 + 1, none⟩) HG4.out.1 (.slice s.b.1 s.b.2.1 s.b.2.2)).setCell (p := ⟨g4, 0 + 1 + 1, none⟩) HG4.out.1 (.slice s.c.1 s.c.2.1 s.c.2.2))
  have HS4 := Lib.hid (HS.out.map (fun _ _ k => k.box HT3.out (by decide) (grown_set3 0 (.slice s.a.1 s.a.2.1 s.a.2.2) (.slice s.b.1 s.b.2.1 s.b.2.2) (.slice s.c.1 s.c.2.1 s.c.2.2))))
  generalize ((w3.setCell ⟨g4, 0, none⟩ (.slice s.a.1 s.a.2.1 s.a.2.2)).setCell ⟨g4, 0 + 1, none⟩ (.slice s.b.1 s.b.2.1 s.b.2.2)).setCell ⟨g4, 0 + 1 + 1, none⟩ (.slice s.c.1 s.c.2.1 s.c.2.2) = W4 at HT4 HZ4 HB4 HS4 ⊢
  have c43 : W4.cell? ⟨g4, 3, none⟩ = some (.slice q.ops.1 q.ops.2.1 q.ops.2.2) := (blk_cell HT4.out 3).trans rfl
  have z43 : W4.frozen? ⟨g4, 3, none⟩ = false := blk_frozen HT4.out 3
  go_upto_region 6 with (fail)
  have HT5 : Hid ((W4.setCell ⟨g4, 3, none⟩ (.slice none 0 0)).heap[g4]? = some (.cells ({ q with f := s, ops := (none, 0, 0) } : RD).cells 53 (0, 0))) := Lib.hid (blk_set HT4.out 3 _)
  have HZ5 : Hid ((W4.setCell ⟨g4, 3, none⟩ (.slice none 0 0)).heap[g + 1]? = some (.cells #[.slice none 0 0, .slice none 0 0, .slice none 0 0, .slice none 0 0, .bool false, .int .i64 0, .int .i64 0, .int .i64 0] 53 (0, 0))) := Lib.hid (blk_far HZ4.out HG4.out.2 _)
  have HB5 := Lib.hid (HB4.out.setCell (p := ⟨g4, 3, none⟩) HG4.out.1 (.slice none 0 0))
  have HS5 := Lib.hid (HS4.out.map (fun _ _ k => k.box HT4.out (by decide) (grown_set 3 (.slice none 0 0))))
  generalize W4.setCell ⟨g4, 3, none⟩ (.slice none 0 0) = W5 at HT5 HZ5 HB5 HS5 ⊢
  clear c43 z43
  go_wp2_with (first | (refine wl_load 53 (.tmp 4) rfl rfl _ _ rfl (rd_ld HT5.out) ?_) | (refine wl_store (old := rz) (cells := ({ q with f := s, ops := (none, 0, 0) } : RD).cells) 53 (.tmp 2) (.tmp 19) rfl rfl rfl rfl HZ5.out infoRd rfl (by simp [Value.oneCell', RD.cells]) ?_) | fail)
  refine bodyPost_ret (results_ct rfl _ _ (g + 1) 53 ({ q with f := s, ops := (none, 0, 0) } : RD).cells (0, 0) _ rfl (setRow_heap _ _ _ _ _ _ HZ5.out) Try.underlying53 rfl infoRd) rfl ?_
  have hbf := below_setRow HB5.out (show w.heap.size ≤ g + 1 by have := HG.out; omega) ({ q with f := s, ops := (none, 0, 0) } : RD).cells
  have hd := HGo.out.2
  rw [← HQ.out.1] at hd
  rw [HE.out]
  refine ⟨_, rfl, ⟨⟨[], ?_, Kd.R_nil _ _ _ _ _, trivial⟩, hd.down, hd.arm, hd.fail, hd.wth⟩, hbf⟩
  have h5 := HS5.out
  rw [HNow.out] at h5
  exact h5.map (fun _ _ k => (k.mono (fun q hq => hq.imp id (Nat.le_trans HB2.out.size))).box HZ5.out (by decide) (grown_row _ _ (blk_lt HZ5.out)))
set_option maxRecDepth 100000 in
set_option maxHeartbeats 8000000 in
theorem crashR_calls {j n : Nat} {ok : Nat → Prop} {w : World} {r : RD} {a : ADk} (h : DR j ok w r a) (hg : Good n a) (hn : n ≤ 1099511627776) (k t : Int) (hk : k ≤ 9223372036854775807) :
    Calls Try.prog 49 #[.agg r.cells, .int .i64 k, .int .i64 t] w (PostD j w ok (a.crash k t)) := by
  have HR := Lib.hid h
  have HM := Lib.hid (h.mem.elim fun rs hm => fun W (hb : Below w.heap.size w W) (K T : Nat) (hK : K ≤ 9223372036854775807) => after_calls (hm.below hb) hg.valid (Nat.le_trans hg.ops hn) K T hK)
  have HD := Lib.hid (blk_alloc (blk_new w (.cells r.cells 53)) RZ)
  have HZ := Lib.hid (show ((w.alloc (.cells r.cells 53)).alloc RZ).heap[w.heap.size + 1]? = some (.cells rz 53 (0, 0)) by rw [← World.size_alloc w (.cells r.cells 53)]; exact blk_new _ _)
  have HB := Lib.hid (below_alloc (below_alloc (Below.refl w.heap.size w) (.cells r.cells 53)) RZ)
  unfold ADk.crash
  clear h hg hn
  by_cases h0 : 0 ≤ k
  case neg =>
    rw [if_pos (by omega)]
    go_enter Try.func49, Try.ntmps49
    go_upto_region 1 with (fail)
    unfold RZ rz at HD HZ HB
    generalize (w.alloc (.cells r.cells 53)).alloc _ = W at HD HZ HB ⊢
    obtain ⟨g, hg⟩ : ∃ g, g = w.heap.size := ⟨_, rfl⟩
    rw [← hg] at HD HZ ⊢
    have HG := Lib.hid hg
    clear hg
    go_wp2_with (first | (refine wl_load 53 (.tmp 3) rfl rfl _ _ rfl (rd_ld HD.out) ?_) | (refine wl_store (old := rz) (cells := r.cells) 53 (.tmp 6) (.tmp 14) rfl rfl rfl rfl HZ.out infoRd rfl (by simp [Value.oneCell', RD.cells]) ?_) | fail)
    refine bodyPost_ret (results_ct rfl _ _ (g + 1) 53 r.cells (0, 0) _ rfl (setRow_heap _ _ _ _ _ _ HZ.out) Try.underlying53 rfl infoRd) rfl ?_
    have hbf := below_setRow HB.out (show w.heap.size ≤ g + 1 by have := HG.out; omega) r.cells
    exact ⟨r, rfl, ((HR.out).below hbf).mono (fun _ h => .inl h), hbf⟩
  by_cases h3 : 0 ≤ t
  case neg =>
    rw [if_pos (by omega)]
    have hk0 : ¬ k < 0 := by omega
    go_enter Try.func49, Try.ntmps49
    go_upto_region 1 with (fail)
    unfold RZ rz at HD HZ HB
    generalize (w.alloc (.cells r.cells 53)).alloc _ = W at HD HZ HB ⊢
    obtain ⟨g, hg⟩ : ∃ g, g = w.heap.size := ⟨_, rfl⟩
    rw [← hg] at HD HZ ⊢
    have HG := Lib.hid hg
    clear hg
    go_wp2_with (first | (refine wl_load 53 (.tmp 3) rfl rfl _ _ rfl (rd_ld HD.out) ?_) | (refine wl_store (old := rz) (cells := r.cells) 53 (.tmp 6) (.tmp 14) rfl rfl rfl rfl HZ.out infoRd rfl (by simp [Value.oneCell', RD.cells]) ?_) | fail)
    refine bodyPost_ret (results_ct rfl _ _ (g + 1) 53 r.cells (0, 0) _ rfl (setRow_heap _ _ _ _ _ _ HZ.out) Try.underlying53 rfl infoRd) rfl ?_
    have hbf := below_setRow HB.out (show w.heap.size ≤ g + 1 by have := HG.out; omega) r.cells
    exact ⟨r, rfl, ((HR.out).below hbf).mono (fun _ h => .inl h), hbf⟩
  rw [if_neg (by omega)]
  obtain ⟨K, rfl⟩ : ∃ K : Nat, k = K := ⟨k.toNat, by omega⟩
  obtain ⟨T, rfl⟩ : ∃ T : Nat, t = T := ⟨t.toNat, by omega⟩
  rw [Int.toNat_natCast, Int.toNat_natCast]
  have hKb : K ≤ 9223372036854775807 := by omega
  go_enter Try.func49, Try.ntmps49
  go_upto_region 1 with (fail)
  unfold RZ rz at HD HZ HB
  generalize (w.alloc (.cells r.cells 53)).alloc _ = W at HD HZ HB ⊢
  obtain ⟨g, hg⟩ : ∃ g, g = w.heap.size := ⟨_, rfl⟩
  rw [← hg] at HD HZ ⊢
  have HG := Lib.hid hg
  clear hg
  go_wp2_with (first | (refine wl_load 53 (.tmp 3) rfl rfl _ _ rfl (rd_ld HD.out) ?_) | (refine (HM.out _ HB.out K T hKb).mono ?_; rintro e w1 ⟨s, rfl, hs, hb⟩; unfold S3.cells; have HS := Lib.hid hs; have HZ1 := Lib.hid (blk_below HZ.out hb); have HB1 := Lib.hid (below_then HB.out HB.out.size hb); clear hs hb) | (refine wl_store (old := rz) (cells := (⟨s, (none, 0, 0), false, -1, -1, 0⟩ : RD).cells) 53 (.tmp 6) (.tmp 19) rfl rfl rfl rfl HZ1.out infoRd rfl (by simp [Value.oneCell', RD.cells]) ?_) | fail)
  refine bodyPost_ret (results_ct rfl _ _ (g + 1) 53 (⟨s, (none, 0, 0), false, -1, -1, 0⟩ : RD).cells (0, 0) _ rfl (setRow_heap _ _ _ _ _ _ HZ1.out) Try.underlying53 rfl infoRd) rfl ?_
  refine ⟨_, rfl, ⟨⟨[], ?_, Kd.R_nil _ _ _ _ _, trivial⟩, rfl, .inl ⟨rfl, rfl⟩, .inl ⟨rfl, rfl⟩, fun h => absurd h (by show ¬ (0:Int) ≤ -1; omega)⟩, below_setRow HB1.out (show w.heap.size ≤ g + 1 by have := HG.out; omega) _⟩
  exact HS.out.map (fun _ _ k => (k.mono (fun q hq => hq.imp id (Nat.le_trans HB.out.size))).box HZ1.out (by decide) (grown_row _ _ (blk_lt HZ1.out)))
end Go.Proofs.Ytfggcdpipolahaa.PF
