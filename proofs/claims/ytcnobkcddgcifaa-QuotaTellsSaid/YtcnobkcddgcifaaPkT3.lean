/- Texts of this claim, laid together: PTx34, QuotaR. -/
import Derived.Test.YtcnobkcddgcifaaPkT0
import Derived.Test.YtcnobkcddgcifaaPkT1
import Derived.Test.YtcnobkcddgcifaaPkT2
-- printed by wprint.py (this session's program over the kit's print.py)
namespace Go.Proofs.Ytcnobkcddgcifaa.PT
open Go.RowKit Go.Proofs.YtcnobkcddgcifaaW.PrintWords Go.Proofs.YtcnobkcddgcifaaW.PrintLast Go.Proofs.YtcnobkcddgcifaaW.PrintMore
attribute [local go_sem] max2_int min2_int max_two min_two max_three min_three max_four min_four   -- for this text's walks alone
set_option linter.unusedVariables false
set_option linter.unusedSimpArgs false

/-! ### quota_Right: function 15 -/
def quota_Right.l0 : Nat → List (S59) → Int → Int → List Int → List (S87) → List (S57) → List (S59) → Int → Option (Bool)
  | 0, _, _, _, _, _, _, _, _ => none
  | k + 1, x6, x7, x8, x275000, x275001, x275002, x275003, x275004 => if x8 < x7 then (if 0 ≤ x8 then (if x8 < (x6.length : Int) then ((tree_Name.f ((rd_T59 x6 x8).f0)).bind fun t278 => (if t278 = true then (if x8 ≤ (x275003.length : Int) then ((quota_find.f (x275003.take (x8 : Int).toNat) ((rd_T59 x6 x8).f0)).bind fun t283 => (if t283 ≥ 0 then (some false) else (if ((rd_T59 x6 x8).f1) < 0 then (some false) else (if ((rd_T59 x6 x8).f1) > 1000 then (some false) else ((quota_limit.f (([(rd_T59 x6 x8).f2, (rd_T59 x6 x8).f3] : List Int))).bind fun t287 => (if t287 = true then (quota_Right.l0 k x6 x7 (wrap64 (x8 + 1)) x275000 x275001 x275002 x275003 x275004) else (some false))))))) else (none)) else (some false))) else (none)) else (none)) else (if (x275003.length : Int) ≥ 1 then (if (x275003.length : Int) ≤ 8 then ((tree_Right.f x275002).bind fun t275 => (some t275)) else (some false)) else (some false))
def quota_Right.f (k : Nat) (l0_0 : List Int) (l0_1 : List (S87)) (l0_2 : List (S57)) (l0_3 : List (S59)) (a0_4 : Int) : Option (Bool) := quota_Right.l0 k l0_3 (l0_3.length : Int) 0 l0_0 l0_1 l0_2 l0_3 a0_4
theorem quota_Right.mono_l : ∀ k, (∀ y0 y1 y2 y3 y4 y5 y6 y7, LeO (quota_Right.l0 k y0 y1 y2 y3 y4 y5 y6 y7) (quota_Right.l0 (k + 1) y0 y1 y2 y3 y4 y5 y6 y7))
  | 0 => fun _ _ _ _ _ _ _ _ r h => by simp [quota_Right.l0] at h
  | k + 1 => by
    have ih0 := quota_Right.mono_l k
    · intro y0 y1 y2 y3 y4 y5 y6 y7
      unfold quota_Right.l0
      repeat' first
      | (with_reducible exact ih0 _ _ _ _ _ _ _ _)
      | (with_reducible exact LeO.refl _)
      | (with_reducible exact LeO.none _)
      | (with_reducible refine LeO.ite ?_ ?_)
      | (with_reducible refine LeO.bind ?_ (fun _ => ?_))
      | exact ih0 _ _ _ _ _ _ _ _
      | exact LeO.none _
      | refine LeO.ite ?_ ?_
      | refine LeO.bind ?_ (fun _ => ?_)
theorem quota_Right.mono : ∀ a0 a1 a2 a3 a4 k, LeO (quota_Right.f k a0 a1 a2 a3 a4) (quota_Right.f (k + 1) a0 a1 a2 a3 a4) := by
  intro a0 a1 a2 a3 a4 k
  have ih0 := quota_Right.mono_l k
  unfold quota_Right.f
  repeat' first
      | (with_reducible exact ih0 _ _ _ _ _ _ _ _)
      | (with_reducible exact LeO.refl _)
      | (with_reducible exact LeO.none _)
      | (with_reducible refine LeO.ite ?_ ?_)
      | (with_reducible refine LeO.bind ?_ (fun _ => ?_))
      | exact ih0 _ _ _ _ _ _ _ _
      | exact LeO.none _
      | refine LeO.ite ?_ ?_
      | refine LeO.bind ?_ (fun _ => ?_)
def quota_Right.T4 : Bool × List (List Nat × List Nat) := (true, [([], []), ([0], [0]), ([1], [1]), ([2], [2]), ([3, 2], [3]), ([4], [4]), ([5, 4], [4, 5]), ([4], [4]), ([6, 7, 4], [4, 6, 7]), ([4], [4]), ([9, 4], [4, 9]), ([8, 10, 4, 4], [4, 8, 10]), ([11, 4], [4, 11]), ([4, 12], [4, 12]), ([13, 11], [13]), ([14], [14]), ([15, 14], [14, 15]), ([16, 14], [14, 16]), ([14, 17], [14, 17]), ([18, 14], [18]), ([19], [19]), ([20, 19], [19, 20]), ([21, 19], [19, 21]), ([19, 22], [19, 22]), ([23, 19], [23]), ([24], [24]), ([25, 24], [24, 25]), ([24], [24]), ([27, 24], [24, 27]), ([26, 28, 24], [24, 26, 28]), ([29, 24, 24], [24, 29]), ([30, 24], [24, 30]), ([24, 31], [24, 31])])
def quota_Right.B4 : List Nat := [0, 1, 3, 7, 15, 31, 63, 31, 255, 31, 543, 2047, 4095, 8191, 16383, 32767, 65535, 131071, 262143, 524287, 1048575, 2097151, 4194303, 8388607, 16777215, 33554431, 67108863, 33554431, 167772159, 536870911, 1073741823, 2147483647, 4294967295]
theorem quota_Right.tab4 : rtab .any (opsOf Try.f15 4) = quota_Right.T4 := by kernel_rfl
theorem quota_Right.bits4 : waitsOk quota_Right.T4.2 quota_Right.B4 = true := by kernel_rfl
set_option maxHeartbeats 8000000 in
set_option maxRecDepth 100000 in
theorem quota_Right.calls (k : Nat) (A0_0 : Option Addr) (c0_0 : Nat) (l0_0 : List Int) (A0_1 : Option Addr) (c0_1 : Nat) (l0_1 : List (S87)) (A0_2 : Option Addr) (c0_2 : Nat) (l0_2 : List (S57)) (A0_3 : Option Addr) (c0_3 : Nat) (l0_3 : List (S59)) (a0_4 : Int) (r : Bool) (w : World) (hr0_0 : Kd.C (Kd.int .i64) w A0_0 l0_0.length l0_0) (hc0_0 : l0_0.length ≤ c0_0) (hr0_1 : Kd.C k87 w A0_1 l0_1.length l0_1) (hc0_1 : l0_1.length ≤ c0_1) (hr0_2 : Kd.C k57 w A0_2 l0_2.length l0_2) (hc0_2 : l0_2.length ≤ c0_2) (hr0_3 : Kd.C k59 w A0_3 l0_3.length l0_3) (hc0_3 : l0_3.length ≤ c0_3) (h : quota_Right.f k l0_0 l0_1 l0_2 l0_3 a0_4 = some r) :
    Calls Try.prog 15 #[.agg #[.slice A0_0 l0_0.length c0_0, .slice A0_1 l0_1.length c0_1, .slice A0_2 l0_2.length c0_2, .slice A0_3 l0_3.length c0_3, .int .u8 a0_4]] w fun e w' => e = .returned (.bool r) ∧ Below w.heap.size w w' := by
  have hu28 := Try.underlying28
  have hu59 := Try.underlying59
  have HR0_0 := Aside0.mk hr0_0
  have HC0_0 := Aside0.mk hc0_0
  clear hr0_0 hc0_0
  have HR0_1 := Aside0.mk hr0_1
  have HC0_1 := Aside0.mk hc0_1
  clear hr0_1 hc0_1
  have HR0_2 := Aside0.mk hr0_2
  have HC0_2 := Aside0.mk hc0_2
  clear hr0_2 hc0_2
  have HR0_3 := Aside0.mk hr0_3
  have HC0_3 := Aside0.mk hc0_3
  clear hr0_3 hc0_3
  have HB := Aside0.mk (Below.refl w.heap.size w)
  have H : (quota_Right.l0 k l0_3 (l0_3.length : Int) 0 l0_0 l0_1 l0_2 l0_3 a0_4) = some r := h
  clear h
  have H' := Aside0.mk H
  clear H
  go_enter Try.func15, Try.ntmps15
  go_wp2_with (first | ((with_reducible refine gate_dst (N := 1) rfl ?_); (try (refine gate_guard (by rfl) ?_; dsimp only)); refine box_event ?hg (N := 1) ?hd (cs := #[.slice A0_0 l0_0.length c0_0, .slice A0_1 l0_1.length c0_1, .slice A0_2 l0_2.length c0_2, .slice A0_3 l0_3.length c0_3, .int .u8 a0_4]) (t := 28) ?hr ?_; (case hd => rfl); (case hg => rfl); (case hr => first | (go_simp; done) | (go_simp; rfl)); intro gb274 hg w2 hbox hb; have n0_ := Aside0.mk (below_step (by repeat (first | (with_reducible first | exact HB.out | apply below_alloc | apply pw_below_drewN | apply below_drew1) | exact HB.out)) hb); have n1_ := Aside0.mk (hbox); have n2_ := Aside0.mk ((by rw [hg]; exact (below_size (by repeat (first | (with_reducible first | exact HB.out | apply below_alloc | apply pw_below_drewN | apply below_drew1) | exact HB.out))) : w.heap.size ≤ gb274)); have n3_ := Aside0.mk ((by rw [hg]; exact (below_size (by repeat (first | (with_reducible first | exact HB.out | apply below_alloc | apply pw_below_drewN | apply below_drew1) | exact HB.out))) : w.heap.size ≤ gb274)); clear HB; have HB := n0_; have BK274 := n1_; have GW274 := n2_; have GE274 := n3_; clear n0_ n1_ n2_ n3_; clear hb hbox hg; have hcz3_0 : w2.cell? ⟨gb274, 0, none⟩ = some (.slice A0_0 l0_0.length c0_0) := (blk_cell BK274.out 0).trans rfl; have hcz3_1 : w2.cell? ⟨gb274, 1, none⟩ = some (.slice A0_1 l0_1.length c0_1) := (blk_cell BK274.out 1).trans rfl; have hcz3_2 : w2.cell? ⟨gb274, 2, none⟩ = some (.slice A0_2 l0_2.length c0_2) := (blk_cell BK274.out 2).trans rfl; have hcz3_3 : w2.cell? ⟨gb274, 3, none⟩ = some (.slice A0_3 l0_3.length c0_3) := (blk_cell BK274.out 3).trans rfl; have hcz3_4 : w2.cell? ⟨gb274, 4, none⟩ = some (.int .u8 a0_4) := (blk_cell BK274.out 4).trans rfl; have hfz3_0 := blk_frozen BK274.out 0; have hfz3_1 := blk_frozen BK274.out 1; have hfz3_2 := blk_frozen BK274.out 2; have hfz3_3 := blk_frozen BK274.out 3; have hfz3_4 := blk_frozen BK274.out 4))
  go_loopg [8] k (fun kq v8 w' => ∃ (x8_1 : Int), v8 = .int .i64 x8_1 ∧ Aside0 (quota_Right.l0 kq l0_3 (l0_3.length : Int) x8_1 l0_0 l0_1 l0_2 l0_3 a0_4 = some r) ∧ Aside0 (kq ≤ k) ∧ Aside0 (w'.heap[gb274]? = some (.cells #[(.slice A0_0 l0_0.length c0_0), (.slice A0_1 l0_1.length c0_1), (.slice A0_2 l0_2.length c0_2), (.slice A0_3 l0_3.length c0_3), .int .u8 a0_4] 28 (0, 0))) ∧ Aside0 (Below w.heap.size w w'))
  case atStart => exact ⟨(0), (by first | rfl | (simp; done) | (simp [*]; done)), H', ⟨Nat.le_refl _⟩, ⟨by (with_reducible repeat (first | refine blk_drewN ?_ _ | refine blk_drew ?_ | refine blk_alloc ?_ _)); exact BK274.out⟩, ⟨by repeat (first | (with_reducible first | exact HB.out | apply below_alloc | apply pw_below_drewN | apply below_drew1 | refine below_set ?_ GE274.out) | exact HB.out)⟩⟩
  case round =>
    clear H'
    try clear c1
    try clear p2
    try clear hcz3_0
    try clear hcz3_1
    try clear hcz3_2
    try clear hcz3_3
    try clear hcz3_4
    try clear hfz3_0
    try clear hfz3_1
    try clear hfz3_2
    try clear hfz3_3
    try clear hfz3_4
    obtain ⟨x8_1, rfl, HA, HK1, BK274, HB⟩ := hrel
    cases gk with
    | zero => exact absurd HA.out (by simp [quota_Right.l0])
    | succ k1 =>
      have H := HA.out
      clear HA
      simp only [quota_Right.l0] at H
      by_cases c4 : x8_1 < (l0_3.length : Int)
      · rw [if_pos c4] at H
        have c4b0 : decide (x8_1 < (l0_3.length : Int)) = true := decide_eq_true c4
        clear c4
        by_cases c5 : 0 ≤ x8_1
        · rw [if_pos c5] at H
          have c5b0 : decide (0 ≤ x8_1) = true := decide_eq_true c5
          clear c5
          by_cases c6 : x8_1 < (l0_3.length : Int)
          · rw [if_pos c6] at H
            have c6b0 : decide (x8_1 < (l0_3.length : Int)) = true := decide_eq_true c6
            clear c6
            replace H := Option.bind_eq_some_iff.mp H
            obtain ⟨t278, A70, H⟩ := H
            replace H : (if t278 = true then (if x8_1 ≤ (l0_3.length : Int) then ((quota_find.f (l0_3.take (x8_1 : Int).toNat) ((rd_T59 l0_3 x8_1).f0)).bind fun t283 => (if t283 ≥ 0 then (some false) else (if ((rd_T59 l0_3 x8_1).f1) < 0 then (some false) else (if ((rd_T59 l0_3 x8_1).f1) > 1000 then (some false) else ((quota_limit.f (([(rd_T59 l0_3 x8_1).f2, (rd_T59 l0_3 x8_1).f3] : List Int))).bind fun t287 => (if t287 = true then (quota_Right.l0 k1 l0_3 (l0_3.length : Int) (wrap64 (x8_1 + 1)) l0_0 l0_1 l0_2 l0_3 a0_4) else (some false))))))) else (none)) else (some false)) = some r := H
            have A7 := Aside0.mk A70
            clear A70
            by_cases c8 : t278 = true
            · subst c8
              have H1 : (if x8_1 ≤ (l0_3.length : Int) then ((quota_find.f (l0_3.take (x8_1 : Int).toNat) ((rd_T59 l0_3 x8_1).f0)).bind fun t283 => (if t283 ≥ 0 then (some false) else (if ((rd_T59 l0_3 x8_1).f1) < 0 then (some false) else (if ((rd_T59 l0_3 x8_1).f1) > 1000 then (some false) else ((quota_limit.f (([(rd_T59 l0_3 x8_1).f2, (rd_T59 l0_3 x8_1).f3] : List Int))).bind fun t287 => (if t287 = true then (quota_Right.l0 k1 l0_3 (l0_3.length : Int) (wrap64 (x8_1 + 1)) l0_0 l0_1 l0_2 l0_3 a0_4) else (some false))))))) else (none)) = some r := by rw [if_pos rfl] at H; exact H
              clear H
              have H := H1
              clear H1
              have c9b0 := eq_true (of_decide_eq_true (by first | (with_reducible assumption) | assumption) : 0 ≤ x8_1)
              by_cases c10 : x8_1 ≤ (l0_3.length : Int)
              · rw [if_pos c10] at H
                have c10b0 := eq_true c10
                have c10b1 : decide (x8_1 ≤ (l0_3.length : Int)) = true := decide_eq_true c10
                clear c10
                obtain ⟨y279, hy279⟩ : ∃ y_ : List (S59), y_ = (l0_3.take (x8_1 : Int).toNat) := ⟨_, rfl⟩
                replace H : ((quota_find.f y279 ((rd_T59 l0_3 x8_1).f0)).bind fun t283 => (if t283 ≥ 0 then (some false) else (if ((rd_T59 l0_3 x8_1).f1) < 0 then (some false) else (if ((rd_T59 l0_3 x8_1).f1) > 1000 then (some false) else ((quota_limit.f (([(rd_T59 l0_3 x8_1).f2, (rd_T59 l0_3 x8_1).f3] : List Int))).bind fun t287 => (if t287 = true then (quota_Right.l0 k1 l0_3 (l0_3.length : Int) (wrap64 (x8_1 + 1)) l0_0 l0_1 l0_2 l0_3 a0_4) else (some false))))))) = some r := by first | (rw [hy279]; with_reducible exact H) | (have H2_ := (Option.bind_some _ _).symm.trans H; rw [hy279]; with_reducible exact H2_) | (have H2_ := (Option.bind_some _ _).symm.trans H; with_reducible exact H2_) | with_reducible exact H | (rw [hy279]; exact H) | exact H
                have Ny279 := Aside0.mk hy279
                clear hy279
                replace H := Option.bind_eq_some_iff.mp H
                obtain ⟨t283, A110, H⟩ := H
                replace H : (if t283 ≥ 0 then (some false) else (if ((rd_T59 l0_3 x8_1).f1) < 0 then (some false) else (if ((rd_T59 l0_3 x8_1).f1) > 1000 then (some false) else ((quota_limit.f (([(rd_T59 l0_3 x8_1).f2, (rd_T59 l0_3 x8_1).f3] : List Int))).bind fun t287 => (if t287 = true then (quota_Right.l0 k1 l0_3 (l0_3.length : Int) (wrap64 (x8_1 + 1)) l0_0 l0_1 l0_2 l0_3 a0_4) else (some false)))))) = some r := H
                have A11 := Aside0.mk A110
                clear A110
                by_cases c12 : t283 ≥ 0
                · rw [if_pos c12] at H
                  have c12b0 : decide (0 ≤ t283) = true := decide_eq_true c12
                  clear c12
                  obtain rfl := Option.some.inj H
                  have p276 : 0 ≤ (x8_1 : Int) := of_decide_eq_true (by first | (with_reducible assumption) | assumption)
                  have q276 : x8_1 < (l0_3.length : Int) := of_decide_eq_true (by first | (with_reducible assumption) | assumption)
                  obtain ⟨ad276, e276, hx276_0, hx276_1, hx276_2, hx276_3⟩ := at_T59 HR0_3.out x8_1 p276 q276
                  cases e276
                  replace hx276_0 := (HB.out.cell (World.block_lt_of_cell? w _ hx276_0)).trans hx276_0
                  replace hx276_1 := (HB.out.cell (World.block_lt_of_cell? w _ hx276_1)).trans hx276_1
                  replace hx276_2 := (HB.out.cell (World.block_lt_of_cell? w _ hx276_2)).trans hx276_2
                  replace hx276_3 := (HB.out.cell (World.block_lt_of_cell? w _ hx276_3)).trans hx276_3
                  replace p276 := eq_true p276
                  replace q276 := eq_true q276
                  try go_wp2_with (first | ((with_reducible refine gate_dst (N := 4) rfl ?_); (try (refine gate_guard (by rfl) ?_; dsimp only)); refine box_event ?hg (N := 4) ?hd (cs := #[.string (⟨#[]⟩ : ByteArray), .int .i64 0, .int .i64 0, .int .i64 0]) (t := 59) ?hr ?_; (case hd => rfl); (case hg => rfl); (case hr => first | (go_simp; done) | (go_simp; rfl)); intro gb277 hg w13 hbox hb; have n0_ := Aside0.mk (blk_below (g := gb274) (o := .cells #[.slice A0_0 l0_0.length c0_0, .slice A0_1 l0_1.length c0_1, .slice A0_2 l0_2.length c0_2, .slice (some ad276) l0_3.length c0_3, .int .u8 a0_4] 28 (0, 0)) (by (with_reducible repeat (first | refine blk_drewN ?_ _ | refine blk_drew ?_ | refine blk_alloc ?_ _)); exact BK274.out) hb); have n1_ := Aside0.mk (below_step (by repeat (first | (with_reducible first | exact HB.out | apply below_alloc | apply pw_below_drewN | apply below_drew1 | refine below_set ?_ GE274.out) | exact HB.out)) hb); have n2_ := Aside0.mk (hbox); have n3_ := Aside0.mk ((by rw [hg]; exact (below_size (by repeat (first | (with_reducible first | exact HB.out | apply below_alloc | apply pw_below_drewN | apply below_drew1 | refine below_set ?_ GE274.out) | exact HB.out))) : w.heap.size ≤ gb277)); have n4_ := Aside0.mk ((by rw [hg]; exact (below_size (by repeat (first | (with_reducible first | exact HB.out | apply below_alloc | apply pw_below_drewN | apply below_drew1 | refine below_set ?_ GE274.out) | exact HB.out))) : w.heap.size ≤ gb277)); have n5_ := Aside0.mk ((by rw [hg]; exact Nat.ne_of_lt (blk_lt (g := gb274) (o := .cells #[.slice A0_0 l0_0.length c0_0, .slice A0_1 l0_1.length c0_1, .slice A0_2 l0_2.length c0_2, .slice (some ad276) l0_3.length c0_3, .int .u8 a0_4] 28 (0, 0)) (by (with_reducible repeat (first | refine blk_drewN ?_ _ | refine blk_drew ?_ | refine blk_alloc ?_ _)); exact BK274.out)) : gb274 ≠ gb277)); have n6_ := Aside0.mk ((by rw [hg]; exact Nat.ne_of_gt (blk_lt (g := gb274) (o := .cells #[.slice A0_0 l0_0.length c0_0, .slice A0_1 l0_1.length c0_1, .slice A0_2 l0_2.length c0_2, .slice (some ad276) l0_3.length c0_3, .int .u8 a0_4] 28 (0, 0)) (by (with_reducible repeat (first | refine blk_drewN ?_ _ | refine blk_drew ?_ | refine blk_alloc ?_ _)); exact BK274.out)) : gb277 ≠ gb274)); clear BK274; clear HB; have BK274 := n0_; have HB := n1_; have BK277 := n2_; have GW277 := n3_; have GE277 := n4_; have NB274_277 := n5_; have NB277_274 := n6_; clear n0_ n1_ n2_ n3_ n4_ n5_ n6_; clear hb hbox hg; have hnb14 := NB277_274.out; have hnc14 := NB274_277.out; have hcz15_0 : w13.cell? ⟨gb277, 0, none⟩ = some (.string (⟨#[]⟩ : ByteArray)) := (blk_cell BK277.out 0).trans rfl; have hcz15_1 : w13.cell? ⟨gb277, 1, none⟩ = some (.int .i64 0) := (blk_cell BK277.out 1).trans rfl; have hcz15_2 : w13.cell? ⟨gb277, 2, none⟩ = some (.int .i64 0) := (blk_cell BK277.out 2).trans rfl; have hcz15_3 : w13.cell? ⟨gb277, 3, none⟩ = some (.int .i64 0) := (blk_cell BK277.out 3).trans rfl; have hfz15_0 := blk_frozen BK277.out 0; have hfz15_1 := blk_frozen BK277.out 1; have hfz15_2 := blk_frozen BK277.out 2; have hfz15_3 := blk_frozen BK277.out 3))
                  have n0_ : Aside0 (((((w13.setCell ⟨gb277, 0, none⟩ (.string ((rd_T59 l0_3 x8_1).f0))).setCell ⟨gb277, 1, none⟩ (.int .i64 ((rd_T59 l0_3 x8_1).f1))).setCell ⟨gb277, 2, none⟩ (.int .i64 ((rd_T59 l0_3 x8_1).f2))).setCell ⟨gb277, 3, none⟩ (.int .i64 ((rd_T59 l0_3 x8_1).f3))).heap[gb274]? = some (.cells #[.slice A0_0 l0_0.length c0_0, .slice A0_1 l0_1.length c0_1, .slice A0_2 l0_2.length c0_2, .slice (some ad276) l0_3.length c0_3, .int .u8 a0_4] 28 (0, 0))) := ⟨by (with_reducible repeat (first | refine blk_drewN ?_ _ | refine blk_drew ?_ | refine blk_alloc ?_ _)); refine blk_far ?_ NB274_277.out _; (with_reducible repeat (first | refine blk_drewN ?_ _ | refine blk_drew ?_ | refine blk_alloc ?_ _)); refine blk_far ?_ NB274_277.out _; (with_reducible repeat (first | refine blk_drewN ?_ _ | refine blk_drew ?_ | refine blk_alloc ?_ _)); refine blk_far ?_ NB274_277.out _; (with_reducible repeat (first | refine blk_drewN ?_ _ | refine blk_drew ?_ | refine blk_alloc ?_ _)); refine blk_far ?_ NB274_277.out _; (with_reducible repeat (first | refine blk_drewN ?_ _ | refine blk_drew ?_ | refine blk_alloc ?_ _)); exact BK274.out⟩
                  have n1_ : Aside0 (((((w13.setCell ⟨gb277, 0, none⟩ (.string ((rd_T59 l0_3 x8_1).f0))).setCell ⟨gb277, 1, none⟩ (.int .i64 ((rd_T59 l0_3 x8_1).f1))).setCell ⟨gb277, 2, none⟩ (.int .i64 ((rd_T59 l0_3 x8_1).f2))).setCell ⟨gb277, 3, none⟩ (.int .i64 ((rd_T59 l0_3 x8_1).f3))).heap[gb277]? = some (.cells #[.string ((rd_T59 l0_3 x8_1).f0), .int .i64 ((rd_T59 l0_3 x8_1).f1), .int .i64 ((rd_T59 l0_3 x8_1).f2), .int .i64 ((rd_T59 l0_3 x8_1).f3)] 59 (0, 0))) := ⟨by (with_reducible repeat (first | refine blk_drewN ?_ _ | refine blk_drew ?_ | refine blk_alloc ?_ _)); refine blk_put (cs := #[.string ((rd_T59 l0_3 x8_1).f0), .int .i64 ((rd_T59 l0_3 x8_1).f1), .int .i64 ((rd_T59 l0_3 x8_1).f2), .int .i64 0]) ?_ 3 _ rfl; (with_reducible repeat (first | refine blk_drewN ?_ _ | refine blk_drew ?_ | refine blk_alloc ?_ _)); refine blk_put (cs := #[.string ((rd_T59 l0_3 x8_1).f0), .int .i64 ((rd_T59 l0_3 x8_1).f1), .int .i64 0, .int .i64 0]) ?_ 2 _ rfl; (with_reducible repeat (first | refine blk_drewN ?_ _ | refine blk_drew ?_ | refine blk_alloc ?_ _)); refine blk_put (cs := #[.string ((rd_T59 l0_3 x8_1).f0), .int .i64 0, .int .i64 0, .int .i64 0]) ?_ 1 _ rfl; (with_reducible repeat (first | refine blk_drewN ?_ _ | refine blk_drew ?_ | refine blk_alloc ?_ _)); refine blk_put (cs := #[.string (⟨#[]⟩ : ByteArray), .int .i64 0, .int .i64 0, .int .i64 0]) ?_ 0 _ rfl; (with_reducible repeat (first | refine blk_drewN ?_ _ | refine blk_drew ?_ | refine blk_alloc ?_ _)); exact BK277.out⟩
                  have n2_ : Aside0 (Below w.heap.size w ((((w13.setCell ⟨gb277, 0, none⟩ (.string ((rd_T59 l0_3 x8_1).f0))).setCell ⟨gb277, 1, none⟩ (.int .i64 ((rd_T59 l0_3 x8_1).f1))).setCell ⟨gb277, 2, none⟩ (.int .i64 ((rd_T59 l0_3 x8_1).f2))).setCell ⟨gb277, 3, none⟩ (.int .i64 ((rd_T59 l0_3 x8_1).f3)))) := ⟨by repeat (first | (with_reducible first | exact HB.out | apply below_alloc | apply pw_below_drewN | apply below_drew1 | refine below_set ?_ GE274.out | refine below_set ?_ GE277.out) | exact HB.out)⟩
                  (try clear BK274)
                  (try clear BK277)
                  (try clear HB)
                  generalize ((((w13.setCell ⟨gb277, 0, none⟩ (.string ((rd_T59 l0_3 x8_1).f0))).setCell ⟨gb277, 1, none⟩ (.int .i64 ((rd_T59 l0_3 x8_1).f1))).setCell ⟨gb277, 2, none⟩ (.int .i64 ((rd_T59 l0_3 x8_1).f2))).setCell ⟨gb277, 3, none⟩ (.int .i64 ((rd_T59 l0_3 x8_1).f3))) = w16 at n0_ n1_ n2_ ⊢
                  have BK274 := n0_
                  have BK277 := n1_
                  have HB := n2_
                  clear n0_ n1_ n2_
                  have n0_ := Aside0.mk (blk_drew BK274.out)
                  have n1_ := Aside0.mk (blk_drew BK277.out)
                  have n2_ := Aside0.mk (below_drew1 HB.out)
                  clear BK274
                  clear BK277
                  clear HB
                  have BK274 := n0_
                  have BK277 := n1_
                  have HB := n2_
                  clear n0_ n1_ n2_
                  refine start_ (n := 33) (S := fun w' => w'.cell? ⟨gb277, 0, none⟩ = some (.string ((rd_T59 l0_3 x8_1).f0)) ∧ w'.cell? ⟨gb277, 1, none⟩ = some (.int .i64 ((rd_T59 l0_3 x8_1).f1)) ∧ w'.cell? ⟨gb277, 2, none⟩ = some (.int .i64 ((rd_T59 l0_3 x8_1).f2)) ∧ w'.cell? ⟨gb277, 3, none⟩ = some (.int .i64 ((rd_T59 l0_3 x8_1).f3)) ∧ w'.cell? ⟨gb274, 0, none⟩ = some (.slice A0_0 l0_0.length c0_0) ∧ w'.cell? ⟨gb274, 1, none⟩ = some (.slice A0_1 l0_1.length c0_1) ∧ w'.cell? ⟨gb274, 2, none⟩ = some (.slice A0_2 l0_2.length c0_2) ∧ w'.cell? ⟨gb274, 3, none⟩ = some (.slice (some ad276) l0_3.length c0_3) ∧ w'.cell? ⟨gb274, 4, none⟩ = some (.int .u8 a0_4)) (ds := []) (lk 33 0) (by kernel_rfl) rfl rfl ⟨(blk_cell BK277.out 0).trans rfl, (blk_cell BK277.out 1).trans rfl, (blk_cell BK277.out 2).trans rfl, (blk_cell BK277.out 3).trans rfl, (blk_cell BK274.out 0).trans rfl, (blk_cell BK274.out 1).trans rfl, (blk_cell BK274.out 2).trans rfl, (blk_cell BK274.out 3).trans rfl, (blk_cell BK274.out 4).trans rfl⟩ (fun hHeld => ?_); refine with_tabW quota_Right.tab4 quota_Right.bits4 (fun HT_ HW_ => ?_)
                  generalize w16.drew = w17 at BK274 BK277 HB hHeld ⊢
                  refine pu (i := 0) (N := some 13) (lk 33 1) ?_
                  refine tk9 (i := 1) (N := some 14) (lk 33 3) ?_
                  refine on1 (i := 2) (N := some 15) (lk 33 7) (fun K hK => ?_)
                  refine goes_ Try.func37 (by kernel_rfl) rfl #[.string ((rd_T59 l0_3 x8_1).f0)] (by rfl) rfl rfl (by (try simp only [List.map_toArray, List.map_cons, List.map_nil]); first | done | rfl | (simp only [List.length_drop, List.length_take]; rfl)) ?_
                  with_reducible refine (tree_Name.calls ((rd_T59 l0_3 x8_1).f0) true _ A7.out).mono ?_
                  rintro e w18 ⟨rfl, hb⟩
                  refine ⟨_, rfl, ?_⟩
                  have n0_ := Aside0.mk (blk_below (g := gb274) (o := .cells #[.slice A0_0 l0_0.length c0_0, .slice A0_1 l0_1.length c0_1, .slice A0_2 l0_2.length c0_2, .slice (some ad276) l0_3.length c0_3, .int .u8 a0_4] 28 (0, 0)) (by (with_reducible repeat (first | refine blk_drewN ?_ _ | refine blk_drew ?_ | refine blk_alloc ?_ _)); exact BK274.out) hb)
                  have n1_ := Aside0.mk (blk_below (g := gb277) (o := .cells #[.string ((rd_T59 l0_3 x8_1).f0), .int .i64 ((rd_T59 l0_3 x8_1).f1), .int .i64 ((rd_T59 l0_3 x8_1).f2), .int .i64 ((rd_T59 l0_3 x8_1).f3)] 59 (0, 0)) (by (with_reducible repeat (first | refine blk_drewN ?_ _ | refine blk_drew ?_ | refine blk_alloc ?_ _)); exact BK277.out) hb)
                  have n2_ := Aside0.mk (below_step (by repeat (first | (with_reducible first | exact HB.out | apply below_alloc | apply pw_below_drewN | apply below_drew1 | refine below_set ?_ GE274.out | refine below_set ?_ GE277.out) | exact HB.out)) hb)
                  clear BK274
                  clear BK277
                  clear HB
                  have BK274 := n0_
                  have BK277 := n1_
                  have HB := n2_
                  clear n0_ n1_ n2_
                  (try clear hb)
                  (try clear hb2)
                  (try clear hk)
                  (try clear hi)
                  have q19 : (x8_1 : Int) ≤ ((l0_3.length : Int) : Int) := of_decide_eq_true (by first | (with_reducible assumption) | assumption)
                  obtain ⟨i019, hi019, _, hsz19, _⟩ := info_parts info59
                  have hroom19 : l0_3.length ≤ c0_3 := HC0_3.out
                  have hC19 : Kd.C k59 _ (some ad276) l0_3.length l0_3 := HR0_3.out
                  have hcut19 := cut_to (P := Try.prog) 25 59 .i64 Try.underlying25 hi019 (some ad276) l0_3.length c0_3 x8_1 (of_decide_eq_true (by first | (with_reducible assumption) | assumption)) q19 hroom19
                  have hr19 := Kd.C_take (m := (x8_1 : Int).toNat) hC19 (by omega)
                  have hy19 : y279.length = (x8_1 : Int).toNat := (by rw [Ny279.out, List.length_take]; omega)
                  rw [← Ny279.out] at hr19
                  rw [← hy19] at hcut19
                  have HR282 := Aside0.mk hr19
                  have HC282 := Aside0.mk (show y279.length ≤ c0_3 from by omega)
                  clear hr19 hC19 hroom19 hi019 hsz19
                  have KY19 := Aside0.mk hy19
                  clear hy19
                  replace q19 := eq_true q19
                  refine hK.out _ _ ⟨(blk_cell BK277.out 0).trans rfl, (blk_cell BK277.out 1).trans rfl, (blk_cell BK277.out 2).trans rfl, (blk_cell BK277.out 3).trans rfl, (blk_cell BK274.out 0).trans rfl, (blk_cell BK274.out 1).trans rfl, (blk_cell BK274.out 2).trans rfl, (blk_cell BK274.out 3).trans rfl, (blk_cell BK274.out 4).trans rfl⟩ (fun hHeld => ?_)
                  clear hK K
                  refine nm (some 15) ?_
                  refine pu (i := 3) (N := some 16) (lk 33 15) ?_
                  refine pu (i := 4) (N := some 17) (lk 33 31) ?_
                  refine pu (i := 5) (N := some 18) (lk 33 63) ?_
                  refine pu (i := 7) (N := some 20) (lk 33 191) ?_
                  refine pu (i := 9) (N := some 22) (lk 33 703) ?_
                  refine tk9 (i := 6) (N := some 19) (lk 33 767) ?_
                  refine pu (i := 8) (N := some 21) (lk 33 1023) ?_
                  refine tk9 (i := 10) (N := some 23) (lk 33 2047) ?_
                  refine on1 (i := 11) (N := some 24) (lk 33 4095) (fun K hK => ?_)
                  refine goes_ Try.func33 (by kernel_rfl) rfl #[.slice (some ad276) y279.length c0_3, .string ((rd_T59 l0_3 x8_1).f0)] (by rfl) rfl rfl (by (try simp only [List.map_toArray, List.map_cons, List.map_nil]); first | done | rfl | (simp only [List.length_drop, List.length_take]; rfl)) ?_
                  with_reducible refine (quota_find.calls _ _ y279 ((rd_T59 l0_3 x8_1).f0) t283 _ ?side1 ?side2 A11.out).mono ?_
                  (case side1 => repeat (first | exact (Kd.C_below HR282.out HB.out) | (with_reducible refine Kd.C_alloc ?_ _) | (with_reducible refine Kd.C_drewN ?_ _) | (with_reducible refine Kd.C_drew ?_)))
                  (case side2 => exact HC282.out)
                  rintro e w20 ⟨rfl, hb⟩
                  refine ⟨_, rfl, ?_⟩
                  have n0_ := Aside0.mk (blk_below (g := gb274) (o := .cells #[.slice A0_0 l0_0.length c0_0, .slice A0_1 l0_1.length c0_1, .slice A0_2 l0_2.length c0_2, .slice (some ad276) l0_3.length c0_3, .int .u8 a0_4] 28 (0, 0)) (by (with_reducible repeat (first | refine blk_drewN ?_ _ | refine blk_drew ?_ | refine blk_alloc ?_ _)); exact BK274.out) hb)
                  have n1_ := Aside0.mk (blk_below (g := gb277) (o := .cells #[.string ((rd_T59 l0_3 x8_1).f0), .int .i64 ((rd_T59 l0_3 x8_1).f1), .int .i64 ((rd_T59 l0_3 x8_1).f2), .int .i64 ((rd_T59 l0_3 x8_1).f3)] 59 (0, 0)) (by (with_reducible repeat (first | refine blk_drewN ?_ _ | refine blk_drew ?_ | refine blk_alloc ?_ _)); exact BK277.out) hb)
                  have n2_ := Aside0.mk (below_step (by repeat (first | (with_reducible first | exact HB.out | apply below_alloc | apply pw_below_drewN | apply below_drew1 | refine below_set ?_ GE274.out | refine below_set ?_ GE277.out) | exact HB.out)) hb)
                  clear BK274
                  clear BK277
                  clear HB
                  have BK274 := n0_
                  have BK277 := n1_
                  have HB := n2_
                  clear n0_ n1_ n2_
                  (try clear hb)
                  (try clear hb2)
                  (try clear hk)
                  (try clear hi)
                  refine hK.out _ _ ⟨(blk_cell BK277.out 0).trans rfl, (blk_cell BK277.out 1).trans rfl, (blk_cell BK277.out 2).trans rfl, (blk_cell BK277.out 3).trans rfl, (blk_cell BK274.out 0).trans rfl, (blk_cell BK274.out 1).trans rfl, (blk_cell BK274.out 2).trans rfl, (blk_cell BK274.out 3).trans rfl, (blk_cell BK274.out 4).trans rfl⟩ (fun hHeld => ?_)
                  clear hK K
                  refine nm (some 24) ?_
                  refine pu (i := 12) (N := some 25) (lk 33 8191) ?_
                  refine pu (i := 13) (N := some 26) (lk 33 16383) ?_
                  refine pu (i := 14) (N := some 27) (lk 33 32767) ?_
                  refine pd (i := 15) (N := some 28) (lk 33 65535) ?_
                  refine pd (i := 16) (N := some 29) (lk 33 131071) ?_
                  refine pd (i := 17) (N := some 30) (lk 33 262143) ?_
                  refine pu (i := 18) (N := some 31) (lk 33 524287) ?_
                  refine pu (i := 19) (N := some 32) (lk 33 1048575) ?_
                  refine pd (i := 20) (N := some 33) (lk 33 2097151) ?_
                  refine pd (i := 21) (N := some 34) (lk 33 4194303) ?_
                  refine pd (i := 22) (N := some 35) (lk 33 8388607) ?_
                  refine pu (i := 23) (N := some 36) (lk 33 16777215) ?_
                  refine pu (i := 24) (N := some 37) (lk 33 33554431) ?_
                  refine pd (i := 25) (N := some 38) (lk 33 67108863) ?_
                  refine pd (i := 26) (N := some 39) (lk 33 134217727) ?_
                  refine pd (i := 27) (N := some 40) (lk 33 268435455) ?_
                  refine pd (i := 28) (N := some 41) (lk 33 536870911) ?_
                  refine pd (i := 29) (N := some 42) (lk 33 1073741823) ?_
                  refine pd (i := 30) (N := some 43) (lk 33 2147483647) ?_
                  refine pd (i := 31) (N := some 44) (lk 33 4294967295) ?_
                  refine pu (i := 32) (N := some 45) (lk 33 8589934591) ?_
                  refine done_ (done_of HT_.out (by kernel_rfl)) ?_
                  try go_wp2
                  go_ret
                  exact ⟨by first | rfl | (simp [errW_none, errW_some] <;> rfl) | (simp [*, errW_none, errW_some] <;> rfl), by repeat (first | (with_reducible first | exact HB.out | apply below_alloc | apply pw_below_drewN | apply below_drew1 | refine below_set ?_ GE274.out | refine below_set ?_ GE277.out) | exact HB.out)⟩
                · rw [if_neg c12] at H
                  have c12b0 : decide (0 ≤ t283) = false := decide_eq_false c12
                  clear c12
                  by_cases c21 : ((rd_T59 l0_3 x8_1).f1) < 0
                  · rw [if_pos c21] at H
                    have c21b0 : decide (((rd_T59 l0_3 x8_1).f1) < 0) = true := decide_eq_true c21
                    clear c21
                    obtain rfl := Option.some.inj H
                    have p276 : 0 ≤ (x8_1 : Int) := of_decide_eq_true (by first | (with_reducible assumption) | assumption)
                    have q276 : x8_1 < (l0_3.length : Int) := of_decide_eq_true (by first | (with_reducible assumption) | assumption)
                    obtain ⟨ad276, e276, hx276_0, hx276_1, hx276_2, hx276_3⟩ := at_T59 HR0_3.out x8_1 p276 q276
                    cases e276
                    replace hx276_0 := (HB.out.cell (World.block_lt_of_cell? w _ hx276_0)).trans hx276_0
                    replace hx276_1 := (HB.out.cell (World.block_lt_of_cell? w _ hx276_1)).trans hx276_1
                    replace hx276_2 := (HB.out.cell (World.block_lt_of_cell? w _ hx276_2)).trans hx276_2
                    replace hx276_3 := (HB.out.cell (World.block_lt_of_cell? w _ hx276_3)).trans hx276_3
                    replace p276 := eq_true p276
                    replace q276 := eq_true q276
                    try go_wp2_with (first | ((with_reducible refine gate_dst (N := 4) rfl ?_); (try (refine gate_guard (by rfl) ?_; dsimp only)); refine box_event ?hg (N := 4) ?hd (cs := #[.string (⟨#[]⟩ : ByteArray), .int .i64 0, .int .i64 0, .int .i64 0]) (t := 59) ?hr ?_; (case hd => rfl); (case hg => rfl); (case hr => first | (go_simp; done) | (go_simp; rfl)); intro gb277 hg w22 hbox hb; have n0_ := Aside0.mk (blk_below (g := gb274) (o := .cells #[.slice A0_0 l0_0.length c0_0, .slice A0_1 l0_1.length c0_1, .slice A0_2 l0_2.length c0_2, .slice (some ad276) l0_3.length c0_3, .int .u8 a0_4] 28 (0, 0)) (by (with_reducible repeat (first | refine blk_drewN ?_ _ | refine blk_drew ?_ | refine blk_alloc ?_ _)); exact BK274.out) hb); have n1_ := Aside0.mk (below_step (by repeat (first | (with_reducible first | exact HB.out | apply below_alloc | apply pw_below_drewN | apply below_drew1 | refine below_set ?_ GE274.out) | exact HB.out)) hb); have n2_ := Aside0.mk (hbox); have n3_ := Aside0.mk ((by rw [hg]; exact (below_size (by repeat (first | (with_reducible first | exact HB.out | apply below_alloc | apply pw_below_drewN | apply below_drew1 | refine below_set ?_ GE274.out) | exact HB.out))) : w.heap.size ≤ gb277)); have n4_ := Aside0.mk ((by rw [hg]; exact (below_size (by repeat (first | (with_reducible first | exact HB.out | apply below_alloc | apply pw_below_drewN | apply below_drew1 | refine below_set ?_ GE274.out) | exact HB.out))) : w.heap.size ≤ gb277)); have n5_ := Aside0.mk ((by rw [hg]; exact Nat.ne_of_lt (blk_lt (g := gb274) (o := .cells #[.slice A0_0 l0_0.length c0_0, .slice A0_1 l0_1.length c0_1, .slice A0_2 l0_2.length c0_2, .slice (some ad276) l0_3.length c0_3, .int .u8 a0_4] 28 (0, 0)) (by (with_reducible repeat (first | refine blk_drewN ?_ _ | refine blk_drew ?_ | refine blk_alloc ?_ _)); exact BK274.out)) : gb274 ≠ gb277)); have n6_ := Aside0.mk ((by rw [hg]; exact Nat.ne_of_gt (blk_lt (g := gb274) (o := .cells #[.slice A0_0 l0_0.length c0_0, .slice A0_1 l0_1.length c0_1, .slice A0_2 l0_2.length c0_2, .slice (some ad276) l0_3.length c0_3, .int .u8 a0_4] 28 (0, 0)) (by (with_reducible repeat (first | refine blk_drewN ?_ _ | refine blk_drew ?_ | refine blk_alloc ?_ _)); exact BK274.out)) : gb277 ≠ gb274)); clear BK274; clear HB; have BK274 := n0_; have HB := n1_; have BK277 := n2_; have GW277 := n3_; have GE277 := n4_; have NB274_277 := n5_; have NB277_274 := n6_; clear n0_ n1_ n2_ n3_ n4_ n5_ n6_; clear hb hbox hg; have hnb23 := NB277_274.out; have hnc23 := NB274_277.out; have hcz24_0 : w22.cell? ⟨gb277, 0, none⟩ = some (.string (⟨#[]⟩ : ByteArray)) := (blk_cell BK277.out 0).trans rfl; have hcz24_1 : w22.cell? ⟨gb277, 1, none⟩ = some (.int .i64 0) := (blk_cell BK277.out 1).trans rfl; have hcz24_2 : w22.cell? ⟨gb277, 2, none⟩ = some (.int .i64 0) := (blk_cell BK277.out 2).trans rfl; have hcz24_3 : w22.cell? ⟨gb277, 3, none⟩ = some (.int .i64 0) := (blk_cell BK277.out 3).trans rfl; have hfz24_0 := blk_frozen BK277.out 0; have hfz24_1 := blk_frozen BK277.out 1; have hfz24_2 := blk_frozen BK277.out 2; have hfz24_3 := blk_frozen BK277.out 3))
                    have n0_ : Aside0 (((((w22.setCell ⟨gb277, 0, none⟩ (.string ((rd_T59 l0_3 x8_1).f0))).setCell ⟨gb277, 1, none⟩ (.int .i64 ((rd_T59 l0_3 x8_1).f1))).setCell ⟨gb277, 2, none⟩ (.int .i64 ((rd_T59 l0_3 x8_1).f2))).setCell ⟨gb277, 3, none⟩ (.int .i64 ((rd_T59 l0_3 x8_1).f3))).heap[gb274]? = some (.cells #[.slice A0_0 l0_0.length c0_0, .slice A0_1 l0_1.length c0_1, .slice A0_2 l0_2.length c0_2, .slice (some ad276) l0_3.length c0_3, .int .u8 a0_4] 28 (0, 0))) := ⟨by (with_reducible repeat (first | refine blk_drewN ?_ _ | refine blk_drew ?_ | refine blk_alloc ?_ _)); refine blk_far ?_ NB274_277.out _; (with_reducible repeat (first | refine blk_drewN ?_ _ | refine blk_drew ?_ | refine blk_alloc ?_ _)); refine blk_far ?_ NB274_277.out _; (with_reducible repeat (first | refine blk_drewN ?_ _ | refine blk_drew ?_ | refine blk_alloc ?_ _)); refine blk_far ?_ NB274_277.out _; (with_reducible repeat (first | refine blk_drewN ?_ _ | refine blk_drew ?_ | refine blk_alloc ?_ _)); refine blk_far ?_ NB274_277.out _; (with_reducible repeat (first | refine blk_drewN ?_ _ | refine blk_drew ?_ | refine blk_alloc ?_ _)); exact BK274.out⟩
                    have n1_ : Aside0 (((((w22.setCell ⟨gb277, 0, none⟩ (.string ((rd_T59 l0_3 x8_1).f0))).setCell ⟨gb277, 1, none⟩ (.int .i64 ((rd_T59 l0_3 x8_1).f1))).setCell ⟨gb277, 2, none⟩ (.int .i64 ((rd_T59 l0_3 x8_1).f2))).setCell ⟨gb277, 3, none⟩ (.int .i64 ((rd_T59 l0_3 x8_1).f3))).heap[gb277]? = some (.cells #[.string ((rd_T59 l0_3 x8_1).f0), .int .i64 ((rd_T59 l0_3 x8_1).f1), .int .i64 ((rd_T59 l0_3 x8_1).f2), .int .i64 ((rd_T59 l0_3 x8_1).f3)] 59 (0, 0))) := ⟨by (with_reducible repeat (first | refine blk_drewN ?_ _ | refine blk_drew ?_ | refine blk_alloc ?_ _)); refine blk_put (cs := #[.string ((rd_T59 l0_3 x8_1).f0), .int .i64 ((rd_T59 l0_3 x8_1).f1), .int .i64 ((rd_T59 l0_3 x8_1).f2), .int .i64 0]) ?_ 3 _ rfl; (with_reducible repeat (first | refine blk_drewN ?_ _ | refine blk_drew ?_ | refine blk_alloc ?_ _)); refine blk_put (cs := #[.string ((rd_T59 l0_3 x8_1).f0), .int .i64 ((rd_T59 l0_3 x8_1).f1), .int .i64 0, .int .i64 0]) ?_ 2 _ rfl; (with_reducible repeat (first | refine blk_drewN ?_ _ | refine blk_drew ?_ | refine blk_alloc ?_ _)); refine blk_put (cs := #[.string ((rd_T59 l0_3 x8_1).f0), .int .i64 0, .int .i64 0, .int .i64 0]) ?_ 1 _ rfl; (with_reducible repeat (first | refine blk_drewN ?_ _ | refine blk_drew ?_ | refine blk_alloc ?_ _)); refine blk_put (cs := #[.string (⟨#[]⟩ : ByteArray), .int .i64 0, .int .i64 0, .int .i64 0]) ?_ 0 _ rfl; (with_reducible repeat (first | refine blk_drewN ?_ _ | refine blk_drew ?_ | refine blk_alloc ?_ _)); exact BK277.out⟩
                    have n2_ : Aside0 (Below w.heap.size w ((((w22.setCell ⟨gb277, 0, none⟩ (.string ((rd_T59 l0_3 x8_1).f0))).setCell ⟨gb277, 1, none⟩ (.int .i64 ((rd_T59 l0_3 x8_1).f1))).setCell ⟨gb277, 2, none⟩ (.int .i64 ((rd_T59 l0_3 x8_1).f2))).setCell ⟨gb277, 3, none⟩ (.int .i64 ((rd_T59 l0_3 x8_1).f3)))) := ⟨by repeat (first | (with_reducible first | exact HB.out | apply below_alloc | apply pw_below_drewN | apply below_drew1 | refine below_set ?_ GE274.out | refine below_set ?_ GE277.out) | exact HB.out)⟩
                    (try clear BK274)
                    (try clear BK277)
                    (try clear HB)
                    generalize ((((w22.setCell ⟨gb277, 0, none⟩ (.string ((rd_T59 l0_3 x8_1).f0))).setCell ⟨gb277, 1, none⟩ (.int .i64 ((rd_T59 l0_3 x8_1).f1))).setCell ⟨gb277, 2, none⟩ (.int .i64 ((rd_T59 l0_3 x8_1).f2))).setCell ⟨gb277, 3, none⟩ (.int .i64 ((rd_T59 l0_3 x8_1).f3))) = w25 at n0_ n1_ n2_ ⊢
                    have BK274 := n0_
                    have BK277 := n1_
                    have HB := n2_
                    clear n0_ n1_ n2_
                    have n0_ := Aside0.mk (blk_drew BK274.out)
                    have n1_ := Aside0.mk (blk_drew BK277.out)
                    have n2_ := Aside0.mk (below_drew1 HB.out)
                    clear BK274
                    clear BK277
                    clear HB
                    have BK274 := n0_
                    have BK277 := n1_
                    have HB := n2_
                    clear n0_ n1_ n2_
                    refine start_ (n := 33) (S := fun w' => w'.cell? ⟨gb277, 0, none⟩ = some (.string ((rd_T59 l0_3 x8_1).f0)) ∧ w'.cell? ⟨gb277, 1, none⟩ = some (.int .i64 ((rd_T59 l0_3 x8_1).f1)) ∧ w'.cell? ⟨gb277, 2, none⟩ = some (.int .i64 ((rd_T59 l0_3 x8_1).f2)) ∧ w'.cell? ⟨gb277, 3, none⟩ = some (.int .i64 ((rd_T59 l0_3 x8_1).f3)) ∧ w'.cell? ⟨gb274, 0, none⟩ = some (.slice A0_0 l0_0.length c0_0) ∧ w'.cell? ⟨gb274, 1, none⟩ = some (.slice A0_1 l0_1.length c0_1) ∧ w'.cell? ⟨gb274, 2, none⟩ = some (.slice A0_2 l0_2.length c0_2) ∧ w'.cell? ⟨gb274, 3, none⟩ = some (.slice (some ad276) l0_3.length c0_3) ∧ w'.cell? ⟨gb274, 4, none⟩ = some (.int .u8 a0_4)) (ds := []) (lk 33 0) (by kernel_rfl) rfl rfl ⟨(blk_cell BK277.out 0).trans rfl, (blk_cell BK277.out 1).trans rfl, (blk_cell BK277.out 2).trans rfl, (blk_cell BK277.out 3).trans rfl, (blk_cell BK274.out 0).trans rfl, (blk_cell BK274.out 1).trans rfl, (blk_cell BK274.out 2).trans rfl, (blk_cell BK274.out 3).trans rfl, (blk_cell BK274.out 4).trans rfl⟩ (fun hHeld => ?_); refine with_tabW quota_Right.tab4 quota_Right.bits4 (fun HT_ HW_ => ?_)
                    generalize w25.drew = w26 at BK274 BK277 HB hHeld ⊢
                    refine pu (i := 0) (N := some 13) (lk 33 1) ?_
                    refine tk9 (i := 1) (N := some 14) (lk 33 3) ?_
                    refine on1 (i := 2) (N := some 15) (lk 33 7) (fun K hK => ?_)
                    refine goes_ Try.func37 (by kernel_rfl) rfl #[.string ((rd_T59 l0_3 x8_1).f0)] (by rfl) rfl rfl (by (try simp only [List.map_toArray, List.map_cons, List.map_nil]); first | done | rfl | (simp only [List.length_drop, List.length_take]; rfl)) ?_
                    with_reducible refine (tree_Name.calls ((rd_T59 l0_3 x8_1).f0) true _ A7.out).mono ?_
                    rintro e w27 ⟨rfl, hb⟩
                    refine ⟨_, rfl, ?_⟩
                    have n0_ := Aside0.mk (blk_below (g := gb274) (o := .cells #[.slice A0_0 l0_0.length c0_0, .slice A0_1 l0_1.length c0_1, .slice A0_2 l0_2.length c0_2, .slice (some ad276) l0_3.length c0_3, .int .u8 a0_4] 28 (0, 0)) (by (with_reducible repeat (first | refine blk_drewN ?_ _ | refine blk_drew ?_ | refine blk_alloc ?_ _)); exact BK274.out) hb)
                    have n1_ := Aside0.mk (blk_below (g := gb277) (o := .cells #[.string ((rd_T59 l0_3 x8_1).f0), .int .i64 ((rd_T59 l0_3 x8_1).f1), .int .i64 ((rd_T59 l0_3 x8_1).f2), .int .i64 ((rd_T59 l0_3 x8_1).f3)] 59 (0, 0)) (by (with_reducible repeat (first | refine blk_drewN ?_ _ | refine blk_drew ?_ | refine blk_alloc ?_ _)); exact BK277.out) hb)
                    have n2_ := Aside0.mk (below_step (by repeat (first | (with_reducible first | exact HB.out | apply below_alloc | apply pw_below_drewN | apply below_drew1 | refine below_set ?_ GE274.out | refine below_set ?_ GE277.out) | exact HB.out)) hb)
                    clear BK274
                    clear BK277
                    clear HB
                    have BK274 := n0_
                    have BK277 := n1_
                    have HB := n2_
                    clear n0_ n1_ n2_
                    (try clear hb)
                    (try clear hb2)
                    (try clear hk)
                    (try clear hi)
                    have q28 : (x8_1 : Int) ≤ ((l0_3.length : Int) : Int) := of_decide_eq_true (by first | (with_reducible assumption) | assumption)
                    obtain ⟨i028, hi028, _, hsz28, _⟩ := info_parts info59
                    have hroom28 : l0_3.length ≤ c0_3 := HC0_3.out
                    have hC28 : Kd.C k59 _ (some ad276) l0_3.length l0_3 := HR0_3.out
                    have hcut28 := cut_to (P := Try.prog) 25 59 .i64 Try.underlying25 hi028 (some ad276) l0_3.length c0_3 x8_1 (of_decide_eq_true (by first | (with_reducible assumption) | assumption)) q28 hroom28
                    have hr28 := Kd.C_take (m := (x8_1 : Int).toNat) hC28 (by omega)
                    have hy28 : y279.length = (x8_1 : Int).toNat := (by rw [Ny279.out, List.length_take]; omega)
                    rw [← Ny279.out] at hr28
                    rw [← hy28] at hcut28
                    have HR282 := Aside0.mk hr28
                    have HC282 := Aside0.mk (show y279.length ≤ c0_3 from by omega)
                    clear hr28 hC28 hroom28 hi028 hsz28
                    have KY28 := Aside0.mk hy28
                    clear hy28
                    replace q28 := eq_true q28
                    refine hK.out _ _ ⟨(blk_cell BK277.out 0).trans rfl, (blk_cell BK277.out 1).trans rfl, (blk_cell BK277.out 2).trans rfl, (blk_cell BK277.out 3).trans rfl, (blk_cell BK274.out 0).trans rfl, (blk_cell BK274.out 1).trans rfl, (blk_cell BK274.out 2).trans rfl, (blk_cell BK274.out 3).trans rfl, (blk_cell BK274.out 4).trans rfl⟩ (fun hHeld => ?_)
                    clear hK K
                    refine nm (some 15) ?_
                    refine pu (i := 3) (N := some 16) (lk 33 15) ?_
                    refine pu (i := 4) (N := some 17) (lk 33 31) ?_
                    refine pu (i := 5) (N := some 18) (lk 33 63) ?_
                    refine pu (i := 7) (N := some 20) (lk 33 191) ?_
                    refine pu (i := 9) (N := some 22) (lk 33 703) ?_
                    refine tk9 (i := 6) (N := some 19) (lk 33 767) ?_
                    refine pu (i := 8) (N := some 21) (lk 33 1023) ?_
                    refine tk9 (i := 10) (N := some 23) (lk 33 2047) ?_
                    refine on1 (i := 11) (N := some 24) (lk 33 4095) (fun K hK => ?_)
                    refine goes_ Try.func33 (by kernel_rfl) rfl #[.slice (some ad276) y279.length c0_3, .string ((rd_T59 l0_3 x8_1).f0)] (by rfl) rfl rfl (by (try simp only [List.map_toArray, List.map_cons, List.map_nil]); first | done | rfl | (simp only [List.length_drop, List.length_take]; rfl)) ?_
                    with_reducible refine (quota_find.calls _ _ y279 ((rd_T59 l0_3 x8_1).f0) t283 _ ?side1 ?side2 A11.out).mono ?_
                    (case side1 => repeat (first | exact (Kd.C_below HR282.out HB.out) | (with_reducible refine Kd.C_alloc ?_ _) | (with_reducible refine Kd.C_drewN ?_ _) | (with_reducible refine Kd.C_drew ?_)))
                    (case side2 => exact HC282.out)
                    rintro e w29 ⟨rfl, hb⟩
                    refine ⟨_, rfl, ?_⟩
                    have n0_ := Aside0.mk (blk_below (g := gb274) (o := .cells #[.slice A0_0 l0_0.length c0_0, .slice A0_1 l0_1.length c0_1, .slice A0_2 l0_2.length c0_2, .slice (some ad276) l0_3.length c0_3, .int .u8 a0_4] 28 (0, 0)) (by (with_reducible repeat (first | refine blk_drewN ?_ _ | refine blk_drew ?_ | refine blk_alloc ?_ _)); exact BK274.out) hb)
                    have n1_ := Aside0.mk (blk_below (g := gb277) (o := .cells #[.string ((rd_T59 l0_3 x8_1).f0), .int .i64 ((rd_T59 l0_3 x8_1).f1), .int .i64 ((rd_T59 l0_3 x8_1).f2), .int .i64 ((rd_T59 l0_3 x8_1).f3)] 59 (0, 0)) (by (with_reducible repeat (first | refine blk_drewN ?_ _ | refine blk_drew ?_ | refine blk_alloc ?_ _)); exact BK277.out) hb)
                    have n2_ := Aside0.mk (below_step (by repeat (first | (with_reducible first | exact HB.out | apply below_alloc | apply pw_below_drewN | apply below_drew1 | refine below_set ?_ GE274.out | refine below_set ?_ GE277.out) | exact HB.out)) hb)
                    clear BK274
                    clear BK277
                    clear HB
                    have BK274 := n0_
                    have BK277 := n1_
                    have HB := n2_
                    clear n0_ n1_ n2_
                    (try clear hb)
                    (try clear hb2)
                    (try clear hk)
                    (try clear hi)
                    refine hK.out _ _ ⟨(blk_cell BK277.out 0).trans rfl, (blk_cell BK277.out 1).trans rfl, (blk_cell BK277.out 2).trans rfl, (blk_cell BK277.out 3).trans rfl, (blk_cell BK274.out 0).trans rfl, (blk_cell BK274.out 1).trans rfl, (blk_cell BK274.out 2).trans rfl, (blk_cell BK274.out 3).trans rfl, (blk_cell BK274.out 4).trans rfl⟩ (fun hHeld => ?_)
                    clear hK K
                    refine nm (some 24) ?_
                    refine pu (i := 12) (N := some 25) (lk 33 8191) ?_
                    refine pu (i := 13) (N := some 26) (lk 33 16383) ?_
                    refine pu (i := 14) (N := some 27) (lk 33 32767) ?_
                    refine pu (i := 15) (N := some 28) (lk 33 65535) ?_
                    refine tk9 (i := 16) (N := some 29) (lk 33 131071) ?_
                    refine pu (i := 17) (N := some 30) (lk 33 262143) ?_
                    refine pu (i := 18) (N := some 31) (lk 33 524287) ?_
                    refine pu (i := 19) (N := some 32) (lk 33 1048575) ?_
                    refine pd (i := 20) (N := some 33) (lk 33 2097151) ?_
                    refine pd (i := 21) (N := some 34) (lk 33 4194303) ?_
                    refine pd (i := 22) (N := some 35) (lk 33 8388607) ?_
                    refine pu (i := 23) (N := some 36) (lk 33 16777215) ?_
                    refine pu (i := 24) (N := some 37) (lk 33 33554431) ?_
                    refine pd (i := 25) (N := some 38) (lk 33 67108863) ?_
                    refine pd (i := 26) (N := some 39) (lk 33 134217727) ?_
                    refine pd (i := 27) (N := some 40) (lk 33 268435455) ?_
                    refine pd (i := 28) (N := some 41) (lk 33 536870911) ?_
                    refine pd (i := 29) (N := some 42) (lk 33 1073741823) ?_
                    refine pd (i := 30) (N := some 43) (lk 33 2147483647) ?_
                    refine pd (i := 31) (N := some 44) (lk 33 4294967295) ?_
                    refine pu (i := 32) (N := some 45) (lk 33 8589934591) ?_
                    refine done_ (done_of HT_.out (by kernel_rfl)) ?_
                    try go_wp2
                    go_ret
                    exact ⟨by first | rfl | (simp [errW_none, errW_some] <;> rfl) | (simp [*, errW_none, errW_some] <;> rfl), by repeat (first | (with_reducible first | exact HB.out | apply below_alloc | apply pw_below_drewN | apply below_drew1 | refine below_set ?_ GE274.out | refine below_set ?_ GE277.out) | exact HB.out)⟩
                  · rw [if_neg c21] at H
                    have c21b0 : decide (((rd_T59 l0_3 x8_1).f1) < 0) = false := decide_eq_false c21
                    clear c21
                    by_cases c30 : ((rd_T59 l0_3 x8_1).f1) > 1000
                    · rw [if_pos c30] at H
                      have c30b0 : decide (1000 < ((rd_T59 l0_3 x8_1).f1)) = true := decide_eq_true c30
                      clear c30
                      obtain rfl := Option.some.inj H
                      have p276 : 0 ≤ (x8_1 : Int) := of_decide_eq_true (by first | (with_reducible assumption) | assumption)
                      have q276 : x8_1 < (l0_3.length : Int) := of_decide_eq_true (by first | (with_reducible assumption) | assumption)
                      obtain ⟨ad276, e276, hx276_0, hx276_1, hx276_2, hx276_3⟩ := at_T59 HR0_3.out x8_1 p276 q276
                      cases e276
                      replace hx276_0 := (HB.out.cell (World.block_lt_of_cell? w _ hx276_0)).trans hx276_0
                      replace hx276_1 := (HB.out.cell (World.block_lt_of_cell? w _ hx276_1)).trans hx276_1
                      replace hx276_2 := (HB.out.cell (World.block_lt_of_cell? w _ hx276_2)).trans hx276_2
                      replace hx276_3 := (HB.out.cell (World.block_lt_of_cell? w _ hx276_3)).trans hx276_3
                      replace p276 := eq_true p276
                      replace q276 := eq_true q276
                      try go_wp2_with (first | ((with_reducible refine gate_dst (N := 4) rfl ?_); (try (refine gate_guard (by rfl) ?_; dsimp only)); refine box_event ?hg (N := 4) ?hd (cs := #[.string (⟨#[]⟩ : ByteArray), .int .i64 0, .int .i64 0, .int .i64 0]) (t := 59) ?hr ?_; (case hd => rfl); (case hg => rfl); (case hr => first | (go_simp; done) | (go_simp; rfl)); intro gb277 hg w31 hbox hb; have n0_ := Aside0.mk (blk_below (g := gb274) (o := .cells #[.slice A0_0 l0_0.length c0_0, .slice A0_1 l0_1.length c0_1, .slice A0_2 l0_2.length c0_2, .slice (some ad276) l0_3.length c0_3, .int .u8 a0_4] 28 (0, 0)) (by (with_reducible repeat (first | refine blk_drewN ?_ _ | refine blk_drew ?_ | refine blk_alloc ?_ _)); exact BK274.out) hb); have n1_ := Aside0.mk (below_step (by repeat (first | (with_reducible first | exact HB.out | apply below_alloc | apply pw_below_drewN | apply below_drew1 | refine below_set ?_ GE274.out) | exact HB.out)) hb); have n2_ := Aside0.mk (hbox); have n3_ := Aside0.mk ((by rw [hg]; exact (below_size (by repeat (first | (with_reducible first | exact HB.out | apply below_alloc | apply pw_below_drewN | apply below_drew1 | refine below_set ?_ GE274.out) | exact HB.out))) : w.heap.size ≤ gb277)); have n4_ := Aside0.mk ((by rw [hg]; exact (below_size (by repeat (first | (with_reducible first | exact HB.out | apply below_alloc | apply pw_below_drewN | apply below_drew1 | refine below_set ?_ GE274.out) | exact HB.out))) : w.heap.size ≤ gb277)); have n5_ := Aside0.mk ((by rw [hg]; exact Nat.ne_of_lt (blk_lt (g := gb274) (o := .cells #[.slice A0_0 l0_0.length c0_0, .slice A0_1 l0_1.length c0_1, .slice A0_2 l0_2.length c0_2, .slice (some ad276) l0_3.length c0_3, .int .u8 a0_4] 28 (0, 0)) (by (with_reducible repeat (first | refine blk_drewN ?_ _ | refine blk_drew ?_ | refine blk_alloc ?_ _)); exact BK274.out)) : gb274 ≠ gb277)); have n6_ := Aside0.mk ((by rw [hg]; exact Nat.ne_of_gt (blk_lt (g := gb274) (o := .cells #[.slice A0_0 l0_0.length c0_0, .slice A0_1 l0_1.length c0_1, .slice A0_2 l0_2.length c0_2, .slice (some ad276) l0_3.length c0_3, .int .u8 a0_4] 28 (0, 0)) (by (with_reducible repeat (first | refine blk_drewN ?_ _ | refine blk_drew ?_ | refine blk_alloc ?_ _)); exact BK274.out)) : gb277 ≠ gb274)); clear BK274; clear HB; have BK274 := n0_; have HB := n1_; have BK277 := n2_; have GW277 := n3_; have GE277 := n4_; have NB274_277 := n5_; have NB277_274 := n6_; clear n0_ n1_ n2_ n3_ n4_ n5_ n6_; clear hb hbox hg; have hnb32 := NB277_274.out; have hnc32 := NB274_277.out; have hcz33_0 : w31.cell? ⟨gb277, 0, none⟩ = some (.string (⟨#[]⟩ : ByteArray)) := (blk_cell BK277.out 0).trans rfl; have hcz33_1 : w31.cell? ⟨gb277, 1, none⟩ = some (.int .i64 0) := (blk_cell BK277.out 1).trans rfl; have hcz33_2 : w31.cell? ⟨gb277, 2, none⟩ = some (.int .i64 0) := (blk_cell BK277.out 2).trans rfl; have hcz33_3 : w31.cell? ⟨gb277, 3, none⟩ = some (.int .i64 0) := (blk_cell BK277.out 3).trans rfl; have hfz33_0 := blk_frozen BK277.out 0; have hfz33_1 := blk_frozen BK277.out 1; have hfz33_2 := blk_frozen BK277.out 2; have hfz33_3 := blk_frozen BK277.out 3))
                      have n0_ : Aside0 (((((w31.setCell ⟨gb277, 0, none⟩ (.string ((rd_T59 l0_3 x8_1).f0))).setCell ⟨gb277, 1, none⟩ (.int .i64 ((rd_T59 l0_3 x8_1).f1))).setCell ⟨gb277, 2, none⟩ (.int .i64 ((rd_T59 l0_3 x8_1).f2))).setCell ⟨gb277, 3, none⟩ (.int .i64 ((rd_T59 l0_3 x8_1).f3))).heap[gb274]? = some (.cells #[.slice A0_0 l0_0.length c0_0, .slice A0_1 l0_1.length c0_1, .slice A0_2 l0_2.length c0_2, .slice (some ad276) l0_3.length c0_3, .int .u8 a0_4] 28 (0, 0))) := ⟨by (with_reducible repeat (first | refine blk_drewN ?_ _ | refine blk_drew ?_ | refine blk_alloc ?_ _)); refine blk_far ?_ NB274_277.out _; (with_reducible repeat (first | refine blk_drewN ?_ _ | refine blk_drew ?_ | refine blk_alloc ?_ _)); refine blk_far ?_ NB274_277.out _; (with_reducible repeat (first | refine blk_drewN ?_ _ | refine blk_drew ?_ | refine blk_alloc ?_ _)); refine blk_far ?_ NB274_277.out _; (with_reducible repeat (first | refine blk_drewN ?_ _ | refine blk_drew ?_ | refine blk_alloc ?_ _)); refine blk_far ?_ NB274_277.out _; (with_reducible repeat (first | refine blk_drewN ?_ _ | refine blk_drew ?_ | refine blk_alloc ?_ _)); exact BK274.out⟩
                      have n1_ : Aside0 (((((w31.setCell ⟨gb277, 0, none⟩ (.string ((rd_T59 l0_3 x8_1).f0))).setCell ⟨gb277, 1, none⟩ (.int .i64 ((rd_T59 l0_3 x8_1).f1))).setCell ⟨gb277, 2, none⟩ (.int .i64 ((rd_T59 l0_3 x8_1).f2))).setCell ⟨gb277, 3, none⟩ (.int .i64 ((rd_T59 l0_3 x8_1).f3))).heap[gb277]? = some (.cells #[.string ((rd_T59 l0_3 x8_1).f0), .int .i64 ((rd_T59 l0_3 x8_1).f1), .int .i64 ((rd_T59 l0_3 x8_1).f2), .int .i64 ((rd_T59 l0_3 x8_1).f3)] 59 (0, 0))) := ⟨by (with_reducible repeat (first | refine blk_drewN ?_ _ | refine blk_drew ?_ | refine blk_alloc ?_ _)); refine blk_put (cs := #[.string ((rd_T59 l0_3 x8_1).f0), .int .i64 ((rd_T59 l0_3 x8_1).f1), .int .i64 ((rd_T59 l0_3 x8_1).f2), .int .i64 0]) ?_ 3 _ rfl; (with_reducible repeat (first | refine blk_drewN ?_ _ | refine blk_drew ?_ | refine blk_alloc ?_ _)); refine blk_put (cs := #[.string ((rd_T59 l0_3 x8_1).f0), .int .i64 ((rd_T59 l0_3 x8_1).f1), .int .i64 0, .int .i64 0]) ?_ 2 _ rfl; (with_reducible repeat (first | refine blk_drewN ?_ _ | refine blk_drew ?_ | refine blk_alloc ?_ _)); refine blk_put (cs := #[.string ((rd_T59 l0_3 x8_1).f0), .int .i64 0, .int .i64 0, .int .i64 0]) ?_ 1 _ rfl; (with_reducible repeat (first | refine blk_drewN ?_ _ | refine blk_drew ?_ | refine blk_alloc ?_ _)); refine blk_put (cs := #[.string (⟨#[]⟩ : ByteArray), .int .i64 0, .int .i64 0, .int .i64 0]) ?_ 0 _ rfl; (with_reducible repeat (first | refine blk_drewN ?_ _ | refine blk_drew ?_ | refine blk_alloc ?_ _)); exact BK277.out⟩
                      have n2_ : Aside0 (Below w.heap.size w ((((w31.setCell ⟨gb277, 0, none⟩ (.string ((rd_T59 l0_3 x8_1).f0))).setCell ⟨gb277, 1, none⟩ (.int .i64 ((rd_T59 l0_3 x8_1).f1))).setCell ⟨gb277, 2, none⟩ (.int .i64 ((rd_T59 l0_3 x8_1).f2))).setCell ⟨gb277, 3, none⟩ (.int .i64 ((rd_T59 l0_3 x8_1).f3)))) := ⟨by repeat (first | (with_reducible first | exact HB.out | apply below_alloc | apply pw_below_drewN | apply below_drew1 | refine below_set ?_ GE274.out | refine below_set ?_ GE277.out) | exact HB.out)⟩
                      (try clear BK274)
                      (try clear BK277)
                      (try clear HB)
                      generalize ((((w31.setCell ⟨gb277, 0, none⟩ (.string ((rd_T59 l0_3 x8_1).f0))).setCell ⟨gb277, 1, none⟩ (.int .i64 ((rd_T59 l0_3 x8_1).f1))).setCell ⟨gb277, 2, none⟩ (.int .i64 ((rd_T59 l0_3 x8_1).f2))).setCell ⟨gb277, 3, none⟩ (.int .i64 ((rd_T59 l0_3 x8_1).f3))) = w34 at n0_ n1_ n2_ ⊢
                      have BK274 := n0_
                      have BK277 := n1_
                      have HB := n2_
                      clear n0_ n1_ n2_
                      have n0_ := Aside0.mk (blk_drew BK274.out)
                      have n1_ := Aside0.mk (blk_drew BK277.out)
                      have n2_ := Aside0.mk (below_drew1 HB.out)
                      clear BK274
                      clear BK277
                      clear HB
                      have BK274 := n0_
                      have BK277 := n1_
                      have HB := n2_
                      clear n0_ n1_ n2_
                      refine start_ (n := 33) (S := fun w' => w'.cell? ⟨gb277, 0, none⟩ = some (.string ((rd_T59 l0_3 x8_1).f0)) ∧ w'.cell? ⟨gb277, 1, none⟩ = some (.int .i64 ((rd_T59 l0_3 x8_1).f1)) ∧ w'.cell? ⟨gb277, 2, none⟩ = some (.int .i64 ((rd_T59 l0_3 x8_1).f2)) ∧ w'.cell? ⟨gb277, 3, none⟩ = some (.int .i64 ((rd_T59 l0_3 x8_1).f3)) ∧ w'.cell? ⟨gb274, 0, none⟩ = some (.slice A0_0 l0_0.length c0_0) ∧ w'.cell? ⟨gb274, 1, none⟩ = some (.slice A0_1 l0_1.length c0_1) ∧ w'.cell? ⟨gb274, 2, none⟩ = some (.slice A0_2 l0_2.length c0_2) ∧ w'.cell? ⟨gb274, 3, none⟩ = some (.slice (some ad276) l0_3.length c0_3) ∧ w'.cell? ⟨gb274, 4, none⟩ = some (.int .u8 a0_4)) (ds := []) (lk 33 0) (by kernel_rfl) rfl rfl ⟨(blk_cell BK277.out 0).trans rfl, (blk_cell BK277.out 1).trans rfl, (blk_cell BK277.out 2).trans rfl, (blk_cell BK277.out 3).trans rfl, (blk_cell BK274.out 0).trans rfl, (blk_cell BK274.out 1).trans rfl, (blk_cell BK274.out 2).trans rfl, (blk_cell BK274.out 3).trans rfl, (blk_cell BK274.out 4).trans rfl⟩ (fun hHeld => ?_); refine with_tabW quota_Right.tab4 quota_Right.bits4 (fun HT_ HW_ => ?_)
                      generalize w34.drew = w35 at BK274 BK277 HB hHeld ⊢
                      refine pu (i := 0) (N := some 13) (lk 33 1) ?_
                      refine tk9 (i := 1) (N := some 14) (lk 33 3) ?_
                      refine on1 (i := 2) (N := some 15) (lk 33 7) (fun K hK => ?_)
                      refine goes_ Try.func37 (by kernel_rfl) rfl #[.string ((rd_T59 l0_3 x8_1).f0)] (by rfl) rfl rfl (by (try simp only [List.map_toArray, List.map_cons, List.map_nil]); first | done | rfl | (simp only [List.length_drop, List.length_take]; rfl)) ?_
                      with_reducible refine (tree_Name.calls ((rd_T59 l0_3 x8_1).f0) true _ A7.out).mono ?_
                      rintro e w36 ⟨rfl, hb⟩
                      refine ⟨_, rfl, ?_⟩
                      have n0_ := Aside0.mk (blk_below (g := gb274) (o := .cells #[.slice A0_0 l0_0.length c0_0, .slice A0_1 l0_1.length c0_1, .slice A0_2 l0_2.length c0_2, .slice (some ad276) l0_3.length c0_3, .int .u8 a0_4] 28 (0, 0)) (by (with_reducible repeat (first | refine blk_drewN ?_ _ | refine blk_drew ?_ | refine blk_alloc ?_ _)); exact BK274.out) hb)
                      have n1_ := Aside0.mk (blk_below (g := gb277) (o := .cells #[.string ((rd_T59 l0_3 x8_1).f0), .int .i64 ((rd_T59 l0_3 x8_1).f1), .int .i64 ((rd_T59 l0_3 x8_1).f2), .int .i64 ((rd_T59 l0_3 x8_1).f3)] 59 (0, 0)) (by (with_reducible repeat (first | refine blk_drewN ?_ _ | refine blk_drew ?_ | refine blk_alloc ?_ _)); exact BK277.out) hb)
                      have n2_ := Aside0.mk (below_step (by repeat (first | (with_reducible first | exact HB.out | apply below_alloc | apply pw_below_drewN | apply below_drew1 | refine below_set ?_ GE274.out | refine below_set ?_ GE277.out) | exact HB.out)) hb)
                      clear BK274
                      clear BK277
                      clear HB
                      have BK274 := n0_
                      have BK277 := n1_
                      have HB := n2_
                      clear n0_ n1_ n2_
                      (try clear hb)
                      (try clear hb2)
                      (try clear hk)
                      (try clear hi)
                      have q37 : (x8_1 : Int) ≤ ((l0_3.length : Int) : Int) := of_decide_eq_true (by first | (with_reducible assumption) | assumption)
                      obtain ⟨i037, hi037, _, hsz37, _⟩ := info_parts info59
                      have hroom37 : l0_3.length ≤ c0_3 := HC0_3.out
                      have hC37 : Kd.C k59 _ (some ad276) l0_3.length l0_3 := HR0_3.out
                      have hcut37 := cut_to (P := Try.prog) 25 59 .i64 Try.underlying25 hi037 (some ad276) l0_3.length c0_3 x8_1 (of_decide_eq_true (by first | (with_reducible assumption) | assumption)) q37 hroom37
                      have hr37 := Kd.C_take (m := (x8_1 : Int).toNat) hC37 (by omega)
                      have hy37 : y279.length = (x8_1 : Int).toNat := (by rw [Ny279.out, List.length_take]; omega)
                      rw [← Ny279.out] at hr37
                      rw [← hy37] at hcut37
                      have HR282 := Aside0.mk hr37
                      have HC282 := Aside0.mk (show y279.length ≤ c0_3 from by omega)
                      clear hr37 hC37 hroom37 hi037 hsz37
                      have KY37 := Aside0.mk hy37
                      clear hy37
                      replace q37 := eq_true q37
                      refine hK.out _ _ ⟨(blk_cell BK277.out 0).trans rfl, (blk_cell BK277.out 1).trans rfl, (blk_cell BK277.out 2).trans rfl, (blk_cell BK277.out 3).trans rfl, (blk_cell BK274.out 0).trans rfl, (blk_cell BK274.out 1).trans rfl, (blk_cell BK274.out 2).trans rfl, (blk_cell BK274.out 3).trans rfl, (blk_cell BK274.out 4).trans rfl⟩ (fun hHeld => ?_)
                      clear hK K
                      refine nm (some 15) ?_
                      refine pu (i := 3) (N := some 16) (lk 33 15) ?_
                      refine pu (i := 4) (N := some 17) (lk 33 31) ?_
                      refine pu (i := 5) (N := some 18) (lk 33 63) ?_
                      refine pu (i := 7) (N := some 20) (lk 33 191) ?_
                      refine pu (i := 9) (N := some 22) (lk 33 703) ?_
                      refine tk9 (i := 6) (N := some 19) (lk 33 767) ?_
                      refine pu (i := 8) (N := some 21) (lk 33 1023) ?_
                      refine tk9 (i := 10) (N := some 23) (lk 33 2047) ?_
                      refine on1 (i := 11) (N := some 24) (lk 33 4095) (fun K hK => ?_)
                      refine goes_ Try.func33 (by kernel_rfl) rfl #[.slice (some ad276) y279.length c0_3, .string ((rd_T59 l0_3 x8_1).f0)] (by rfl) rfl rfl (by (try simp only [List.map_toArray, List.map_cons, List.map_nil]); first | done | rfl | (simp only [List.length_drop, List.length_take]; rfl)) ?_
                      with_reducible refine (quota_find.calls _ _ y279 ((rd_T59 l0_3 x8_1).f0) t283 _ ?side1 ?side2 A11.out).mono ?_
                      (case side1 => repeat (first | exact (Kd.C_below HR282.out HB.out) | (with_reducible refine Kd.C_alloc ?_ _) | (with_reducible refine Kd.C_drewN ?_ _) | (with_reducible refine Kd.C_drew ?_)))
                      (case side2 => exact HC282.out)
                      rintro e w38 ⟨rfl, hb⟩
                      refine ⟨_, rfl, ?_⟩
                      have n0_ := Aside0.mk (blk_below (g := gb274) (o := .cells #[.slice A0_0 l0_0.length c0_0, .slice A0_1 l0_1.length c0_1, .slice A0_2 l0_2.length c0_2, .slice (some ad276) l0_3.length c0_3, .int .u8 a0_4] 28 (0, 0)) (by (with_reducible repeat (first | refine blk_drewN ?_ _ | refine blk_drew ?_ | refine blk_alloc ?_ _)); exact BK274.out) hb)
                      have n1_ := Aside0.mk (blk_below (g := gb277) (o := .cells #[.string ((rd_T59 l0_3 x8_1).f0), .int .i64 ((rd_T59 l0_3 x8_1).f1), .int .i64 ((rd_T59 l0_3 x8_1).f2), .int .i64 ((rd_T59 l0_3 x8_1).f3)] 59 (0, 0)) (by (with_reducible repeat (first | refine blk_drewN ?_ _ | refine blk_drew ?_ | refine blk_alloc ?_ _)); exact BK277.out) hb)
                      have n2_ := Aside0.mk (below_step (by repeat (first | (with_reducible first | exact HB.out | apply below_alloc | apply pw_below_drewN | apply below_drew1 | refine below_set ?_ GE274.out | refine below_set ?_ GE277.out) | exact HB.out)) hb)
                      clear BK274
                      clear BK277
                      clear HB
                      have BK274 := n0_
                      have BK277 := n1_
                      have HB := n2_
                      clear n0_ n1_ n2_
                      (try clear hb)
                      (try clear hb2)
                      (try clear hk)
                      (try clear hi)
                      refine hK.out _ _ ⟨(blk_cell BK277.out 0).trans rfl, (blk_cell BK277.out 1).trans rfl, (blk_cell BK277.out 2).trans rfl, (blk_cell BK277.out 3).trans rfl, (blk_cell BK274.out 0).trans rfl, (blk_cell BK274.out 1).trans rfl, (blk_cell BK274.out 2).trans rfl, (blk_cell BK274.out 3).trans rfl, (blk_cell BK274.out 4).trans rfl⟩ (fun hHeld => ?_)
                      clear hK K
                      refine nm (some 24) ?_
                      refine pu (i := 12) (N := some 25) (lk 33 8191) ?_
                      refine pu (i := 13) (N := some 26) (lk 33 16383) ?_
                      refine pu (i := 14) (N := some 27) (lk 33 32767) ?_
                      refine pu (i := 15) (N := some 28) (lk 33 65535) ?_
                      refine tk9 (i := 16) (N := some 29) (lk 33 131071) ?_
                      refine pu (i := 17) (N := some 30) (lk 33 262143) ?_
                      refine pu (i := 18) (N := some 31) (lk 33 524287) ?_
                      refine pu (i := 19) (N := some 32) (lk 33 1048575) ?_
                      refine pu (i := 20) (N := some 33) (lk 33 2097151) ?_
                      refine tk9 (i := 21) (N := some 34) (lk 33 4194303) ?_
                      refine pu (i := 22) (N := some 35) (lk 33 8388607) ?_
                      refine pu (i := 23) (N := some 36) (lk 33 16777215) ?_
                      refine pu (i := 24) (N := some 37) (lk 33 33554431) ?_
                      refine pd (i := 25) (N := some 38) (lk 33 67108863) ?_
                      refine pd (i := 26) (N := some 39) (lk 33 134217727) ?_
                      refine pd (i := 27) (N := some 40) (lk 33 268435455) ?_
                      refine pd (i := 28) (N := some 41) (lk 33 536870911) ?_
                      refine pd (i := 29) (N := some 42) (lk 33 1073741823) ?_
                      refine pd (i := 30) (N := some 43) (lk 33 2147483647) ?_
                      refine pd (i := 31) (N := some 44) (lk 33 4294967295) ?_
                      refine pu (i := 32) (N := some 45) (lk 33 8589934591) ?_
                      refine done_ (done_of HT_.out (by kernel_rfl)) ?_
                      try go_wp2
                      go_ret
                      exact ⟨by first | rfl | (simp [errW_none, errW_some] <;> rfl) | (simp [*, errW_none, errW_some] <;> rfl), by repeat (first | (with_reducible first | exact HB.out | apply below_alloc | apply pw_below_drewN | apply below_drew1 | refine below_set ?_ GE274.out | refine below_set ?_ GE277.out) | exact HB.out)⟩
                    · rw [if_neg c30] at H
                      have c30b0 : decide (1000 < ((rd_T59 l0_3 x8_1).f1)) = false := decide_eq_false c30
                      clear c30
                      obtain ⟨y284, hy284⟩ : ∃ y_ : List Int, y_ = (([(rd_T59 l0_3 x8_1).f2, (rd_T59 l0_3 x8_1).f3] : List Int)) := ⟨_, rfl⟩
                      replace H : ((quota_limit.f y284).bind fun t287 => (if t287 = true then (quota_Right.l0 k1 l0_3 (l0_3.length : Int) (wrap64 (x8_1 + 1)) l0_0 l0_1 l0_2 l0_3 a0_4) else (some false))) = some r := by first | (rw [hy284]; with_reducible exact H) | (have H2_ := (Option.bind_some _ _).symm.trans H; rw [hy284]; with_reducible exact H2_) | (have H2_ := (Option.bind_some _ _).symm.trans H; with_reducible exact H2_) | with_reducible exact H | (rw [hy284]; exact H) | exact H
                      have Ny284 := Aside0.mk hy284
                      clear hy284
                      replace H := Option.bind_eq_some_iff.mp H
                      obtain ⟨t287, A390, H⟩ := H
                      replace H : (if t287 = true then (quota_Right.l0 k1 l0_3 (l0_3.length : Int) (wrap64 (x8_1 + 1)) l0_0 l0_1 l0_2 l0_3 a0_4) else (some false)) = some r := H
                      have A39 := Aside0.mk A390
                      clear A390
                      by_cases c40 : t287 = true
                      · subst c40
                        have H1 : (quota_Right.l0 k1 l0_3 (l0_3.length : Int) (wrap64 (x8_1 + 1)) l0_0 l0_1 l0_2 l0_3 a0_4) = some r := by rw [if_pos rfl] at H; exact H
                        clear H
                        have H := H1
                        clear H1
                        have H' := Aside0.mk H
                        clear H
                        have p276 : 0 ≤ (x8_1 : Int) := of_decide_eq_true (by first | (with_reducible assumption) | assumption)
                        have q276 : x8_1 < (l0_3.length : Int) := of_decide_eq_true (by first | (with_reducible assumption) | assumption)
                        obtain ⟨ad276, e276, hx276_0, hx276_1, hx276_2, hx276_3⟩ := at_T59 HR0_3.out x8_1 p276 q276
                        cases e276
                        replace hx276_0 := (HB.out.cell (World.block_lt_of_cell? w _ hx276_0)).trans hx276_0
                        replace hx276_1 := (HB.out.cell (World.block_lt_of_cell? w _ hx276_1)).trans hx276_1
                        replace hx276_2 := (HB.out.cell (World.block_lt_of_cell? w _ hx276_2)).trans hx276_2
                        replace hx276_3 := (HB.out.cell (World.block_lt_of_cell? w _ hx276_3)).trans hx276_3
                        replace p276 := eq_true p276
                        replace q276 := eq_true q276
                        try go_wp2_with (first | ((with_reducible refine gate_dst (N := 4) rfl ?_); (try (refine gate_guard (by rfl) ?_; dsimp only)); refine box_event ?hg (N := 4) ?hd (cs := #[.string (⟨#[]⟩ : ByteArray), .int .i64 0, .int .i64 0, .int .i64 0]) (t := 59) ?hr ?_; (case hd => rfl); (case hg => rfl); (case hr => first | (go_simp; done) | (go_simp; rfl)); intro gb277 hg w41 hbox hb; have n0_ := Aside0.mk (blk_below (g := gb274) (o := .cells #[.slice A0_0 l0_0.length c0_0, .slice A0_1 l0_1.length c0_1, .slice A0_2 l0_2.length c0_2, .slice (some ad276) l0_3.length c0_3, .int .u8 a0_4] 28 (0, 0)) (by (with_reducible repeat (first | refine blk_drewN ?_ _ | refine blk_drew ?_ | refine blk_alloc ?_ _)); exact BK274.out) hb); have n1_ := Aside0.mk (below_step (by repeat (first | (with_reducible first | exact HB.out | apply below_alloc | apply pw_below_drewN | apply below_drew1 | refine below_set ?_ GE274.out) | exact HB.out)) hb); have n2_ := Aside0.mk (hbox); have n3_ := Aside0.mk ((by rw [hg]; exact (below_size (by repeat (first | (with_reducible first | exact HB.out | apply below_alloc | apply pw_below_drewN | apply below_drew1 | refine below_set ?_ GE274.out) | exact HB.out))) : w.heap.size ≤ gb277)); have n4_ := Aside0.mk ((by rw [hg]; exact (below_size (by repeat (first | (with_reducible first | exact HB.out | apply below_alloc | apply pw_below_drewN | apply below_drew1 | refine below_set ?_ GE274.out) | exact HB.out))) : w.heap.size ≤ gb277)); have n5_ := Aside0.mk ((by rw [hg]; exact Nat.ne_of_lt (blk_lt (g := gb274) (o := .cells #[.slice A0_0 l0_0.length c0_0, .slice A0_1 l0_1.length c0_1, .slice A0_2 l0_2.length c0_2, .slice (some ad276) l0_3.length c0_3, .int .u8 a0_4] 28 (0, 0)) (by (with_reducible repeat (first | refine blk_drewN ?_ _ | refine blk_drew ?_ | refine blk_alloc ?_ _)); exact BK274.out)) : gb274 ≠ gb277)); have n6_ := Aside0.mk ((by rw [hg]; exact Nat.ne_of_gt (blk_lt (g := gb274) (o := .cells #[.slice A0_0 l0_0.length c0_0, .slice A0_1 l0_1.length c0_1, .slice A0_2 l0_2.length c0_2, .slice (some ad276) l0_3.length c0_3, .int .u8 a0_4] 28 (0, 0)) (by (with_reducible repeat (first | refine blk_drewN ?_ _ | refine blk_drew ?_ | refine blk_alloc ?_ _)); exact BK274.out)) : gb277 ≠ gb274)); clear BK274; clear HB; have BK274 := n0_; have HB := n1_; have BK277 := n2_; have GW277 := n3_; have GE277 := n4_; have NB274_277 := n5_; have NB277_274 := n6_; clear n0_ n1_ n2_ n3_ n4_ n5_ n6_; clear hb hbox hg; have hnb42 := NB277_274.out; have hnc42 := NB274_277.out; have hcz43_0 : w41.cell? ⟨gb277, 0, none⟩ = some (.string (⟨#[]⟩ : ByteArray)) := (blk_cell BK277.out 0).trans rfl; have hcz43_1 : w41.cell? ⟨gb277, 1, none⟩ = some (.int .i64 0) := (blk_cell BK277.out 1).trans rfl; have hcz43_2 : w41.cell? ⟨gb277, 2, none⟩ = some (.int .i64 0) := (blk_cell BK277.out 2).trans rfl; have hcz43_3 : w41.cell? ⟨gb277, 3, none⟩ = some (.int .i64 0) := (blk_cell BK277.out 3).trans rfl; have hfz43_0 := blk_frozen BK277.out 0; have hfz43_1 := blk_frozen BK277.out 1; have hfz43_2 := blk_frozen BK277.out 2; have hfz43_3 := blk_frozen BK277.out 3))
                        have n0_ : Aside0 (((((w41.setCell ⟨gb277, 0, none⟩ (.string ((rd_T59 l0_3 x8_1).f0))).setCell ⟨gb277, 1, none⟩ (.int .i64 ((rd_T59 l0_3 x8_1).f1))).setCell ⟨gb277, 2, none⟩ (.int .i64 ((rd_T59 l0_3 x8_1).f2))).setCell ⟨gb277, 3, none⟩ (.int .i64 ((rd_T59 l0_3 x8_1).f3))).heap[gb274]? = some (.cells #[.slice A0_0 l0_0.length c0_0, .slice A0_1 l0_1.length c0_1, .slice A0_2 l0_2.length c0_2, .slice (some ad276) l0_3.length c0_3, .int .u8 a0_4] 28 (0, 0))) := ⟨by (with_reducible repeat (first | refine blk_drewN ?_ _ | refine blk_drew ?_ | refine blk_alloc ?_ _)); refine blk_far ?_ NB274_277.out _; (with_reducible repeat (first | refine blk_drewN ?_ _ | refine blk_drew ?_ | refine blk_alloc ?_ _)); refine blk_far ?_ NB274_277.out _; (with_reducible repeat (first | refine blk_drewN ?_ _ | refine blk_drew ?_ | refine blk_alloc ?_ _)); refine blk_far ?_ NB274_277.out _; (with_reducible repeat (first | refine blk_drewN ?_ _ | refine blk_drew ?_ | refine blk_alloc ?_ _)); refine blk_far ?_ NB274_277.out _; (with_reducible repeat (first | refine blk_drewN ?_ _ | refine blk_drew ?_ | refine blk_alloc ?_ _)); exact BK274.out⟩
                        have n1_ : Aside0 (((((w41.setCell ⟨gb277, 0, none⟩ (.string ((rd_T59 l0_3 x8_1).f0))).setCell ⟨gb277, 1, none⟩ (.int .i64 ((rd_T59 l0_3 x8_1).f1))).setCell ⟨gb277, 2, none⟩ (.int .i64 ((rd_T59 l0_3 x8_1).f2))).setCell ⟨gb277, 3, none⟩ (.int .i64 ((rd_T59 l0_3 x8_1).f3))).heap[gb277]? = some (.cells #[.string ((rd_T59 l0_3 x8_1).f0), .int .i64 ((rd_T59 l0_3 x8_1).f1), .int .i64 ((rd_T59 l0_3 x8_1).f2), .int .i64 ((rd_T59 l0_3 x8_1).f3)] 59 (0, 0))) := ⟨by (with_reducible repeat (first | refine blk_drewN ?_ _ | refine blk_drew ?_ | refine blk_alloc ?_ _)); refine blk_put (cs := #[.string ((rd_T59 l0_3 x8_1).f0), .int .i64 ((rd_T59 l0_3 x8_1).f1), .int .i64 ((rd_T59 l0_3 x8_1).f2), .int .i64 0]) ?_ 3 _ rfl; (with_reducible repeat (first | refine blk_drewN ?_ _ | refine blk_drew ?_ | refine blk_alloc ?_ _)); refine blk_put (cs := #[.string ((rd_T59 l0_3 x8_1).f0), .int .i64 ((rd_T59 l0_3 x8_1).f1), .int .i64 0, .int .i64 0]) ?_ 2 _ rfl; (with_reducible repeat (first | refine blk_drewN ?_ _ | refine blk_drew ?_ | refine blk_alloc ?_ _)); refine blk_put (cs := #[.string ((rd_T59 l0_3 x8_1).f0), .int .i64 0, .int .i64 0, .int .i64 0]) ?_ 1 _ rfl; (with_reducible repeat (first | refine blk_drewN ?_ _ | refine blk_drew ?_ | refine blk_alloc ?_ _)); refine blk_put (cs := #[.string (⟨#[]⟩ : ByteArray), .int .i64 0, .int .i64 0, .int .i64 0]) ?_ 0 _ rfl; (with_reducible repeat (first | refine blk_drewN ?_ _ | refine blk_drew ?_ | refine blk_alloc ?_ _)); exact BK277.out⟩
                        have n2_ : Aside0 (Below w.heap.size w ((((w41.setCell ⟨gb277, 0, none⟩ (.string ((rd_T59 l0_3 x8_1).f0))).setCell ⟨gb277, 1, none⟩ (.int .i64 ((rd_T59 l0_3 x8_1).f1))).setCell ⟨gb277, 2, none⟩ (.int .i64 ((rd_T59 l0_3 x8_1).f2))).setCell ⟨gb277, 3, none⟩ (.int .i64 ((rd_T59 l0_3 x8_1).f3)))) := ⟨by repeat (first | (with_reducible first | exact HB.out | apply below_alloc | apply pw_below_drewN | apply below_drew1 | refine below_set ?_ GE274.out | refine below_set ?_ GE277.out) | exact HB.out)⟩
                        (try clear BK274)
                        (try clear BK277)
                        (try clear HB)
                        generalize ((((w41.setCell ⟨gb277, 0, none⟩ (.string ((rd_T59 l0_3 x8_1).f0))).setCell ⟨gb277, 1, none⟩ (.int .i64 ((rd_T59 l0_3 x8_1).f1))).setCell ⟨gb277, 2, none⟩ (.int .i64 ((rd_T59 l0_3 x8_1).f2))).setCell ⟨gb277, 3, none⟩ (.int .i64 ((rd_T59 l0_3 x8_1).f3))) = w44 at n0_ n1_ n2_ ⊢
                        have BK274 := n0_
                        have BK277 := n1_
                        have HB := n2_
                        clear n0_ n1_ n2_
                        have n0_ := Aside0.mk (blk_drew BK274.out)
                        have n1_ := Aside0.mk (blk_drew BK277.out)
                        have n2_ := Aside0.mk (below_drew1 HB.out)
                        clear BK274
                        clear BK277
                        clear HB
                        have BK274 := n0_
                        have BK277 := n1_
                        have HB := n2_
                        clear n0_ n1_ n2_
                        refine start_ (n := 33) (S := fun w' => w'.cell? ⟨gb277, 0, none⟩ = some (.string ((rd_T59 l0_3 x8_1).f0)) ∧ w'.cell? ⟨gb277, 1, none⟩ = some (.int .i64 ((rd_T59 l0_3 x8_1).f1)) ∧ w'.cell? ⟨gb277, 2, none⟩ = some (.int .i64 ((rd_T59 l0_3 x8_1).f2)) ∧ w'.cell? ⟨gb277, 3, none⟩ = some (.int .i64 ((rd_T59 l0_3 x8_1).f3)) ∧ w'.cell? ⟨gb274, 0, none⟩ = some (.slice A0_0 l0_0.length c0_0) ∧ w'.cell? ⟨gb274, 1, none⟩ = some (.slice A0_1 l0_1.length c0_1) ∧ w'.cell? ⟨gb274, 2, none⟩ = some (.slice A0_2 l0_2.length c0_2) ∧ w'.cell? ⟨gb274, 3, none⟩ = some (.slice (some ad276) l0_3.length c0_3) ∧ w'.cell? ⟨gb274, 4, none⟩ = some (.int .u8 a0_4)) (ds := []) (lk 33 0) (by kernel_rfl) rfl rfl ⟨(blk_cell BK277.out 0).trans rfl, (blk_cell BK277.out 1).trans rfl, (blk_cell BK277.out 2).trans rfl, (blk_cell BK277.out 3).trans rfl, (blk_cell BK274.out 0).trans rfl, (blk_cell BK274.out 1).trans rfl, (blk_cell BK274.out 2).trans rfl, (blk_cell BK274.out 3).trans rfl, (blk_cell BK274.out 4).trans rfl⟩ (fun hHeld => ?_); refine with_tabW quota_Right.tab4 quota_Right.bits4 (fun HT_ HW_ => ?_)
                        generalize w44.drew = w45 at BK274 BK277 HB hHeld ⊢
                        refine pu (i := 0) (N := some 13) (lk 33 1) ?_
                        refine tk9 (i := 1) (N := some 14) (lk 33 3) ?_
                        refine on1 (i := 2) (N := some 15) (lk 33 7) (fun K hK => ?_)
                        refine goes_ Try.func37 (by kernel_rfl) rfl #[.string ((rd_T59 l0_3 x8_1).f0)] (by rfl) rfl rfl (by (try simp only [List.map_toArray, List.map_cons, List.map_nil]); first | done | rfl | (simp only [List.length_drop, List.length_take]; rfl)) ?_
                        with_reducible refine (tree_Name.calls ((rd_T59 l0_3 x8_1).f0) true _ A7.out).mono ?_
                        rintro e w46 ⟨rfl, hb⟩
                        refine ⟨_, rfl, ?_⟩
                        have n0_ := Aside0.mk (blk_below (g := gb274) (o := .cells #[.slice A0_0 l0_0.length c0_0, .slice A0_1 l0_1.length c0_1, .slice A0_2 l0_2.length c0_2, .slice (some ad276) l0_3.length c0_3, .int .u8 a0_4] 28 (0, 0)) (by (with_reducible repeat (first | refine blk_drewN ?_ _ | refine blk_drew ?_ | refine blk_alloc ?_ _)); exact BK274.out) hb)
                        have n1_ := Aside0.mk (blk_below (g := gb277) (o := .cells #[.string ((rd_T59 l0_3 x8_1).f0), .int .i64 ((rd_T59 l0_3 x8_1).f1), .int .i64 ((rd_T59 l0_3 x8_1).f2), .int .i64 ((rd_T59 l0_3 x8_1).f3)] 59 (0, 0)) (by (with_reducible repeat (first | refine blk_drewN ?_ _ | refine blk_drew ?_ | refine blk_alloc ?_ _)); exact BK277.out) hb)
                        have n2_ := Aside0.mk (below_step (by repeat (first | (with_reducible first | exact HB.out | apply below_alloc | apply pw_below_drewN | apply below_drew1 | refine below_set ?_ GE274.out | refine below_set ?_ GE277.out) | exact HB.out)) hb)
                        clear BK274
                        clear BK277
                        clear HB
                        have BK274 := n0_
                        have BK277 := n1_
                        have HB := n2_
                        clear n0_ n1_ n2_
                        (try clear hb)
                        (try clear hb2)
                        (try clear hk)
                        (try clear hi)
                        have q47 : (x8_1 : Int) ≤ ((l0_3.length : Int) : Int) := of_decide_eq_true (by first | (with_reducible assumption) | assumption)
                        obtain ⟨i047, hi047, _, hsz47, _⟩ := info_parts info59
                        have hroom47 : l0_3.length ≤ c0_3 := HC0_3.out
                        have hC47 : Kd.C k59 _ (some ad276) l0_3.length l0_3 := HR0_3.out
                        have hcut47 := cut_to (P := Try.prog) 25 59 .i64 Try.underlying25 hi047 (some ad276) l0_3.length c0_3 x8_1 (of_decide_eq_true (by first | (with_reducible assumption) | assumption)) q47 hroom47
                        have hr47 := Kd.C_take (m := (x8_1 : Int).toNat) hC47 (by omega)
                        have hy47 : y279.length = (x8_1 : Int).toNat := (by rw [Ny279.out, List.length_take]; omega)
                        rw [← Ny279.out] at hr47
                        rw [← hy47] at hcut47
                        have HR282 := Aside0.mk hr47
                        have HC282 := Aside0.mk (show y279.length ≤ c0_3 from by omega)
                        clear hr47 hC47 hroom47 hi047 hsz47
                        have KY47 := Aside0.mk hy47
                        clear hy47
                        replace q47 := eq_true q47
                        refine hK.out _ _ ⟨(blk_cell BK277.out 0).trans rfl, (blk_cell BK277.out 1).trans rfl, (blk_cell BK277.out 2).trans rfl, (blk_cell BK277.out 3).trans rfl, (blk_cell BK274.out 0).trans rfl, (blk_cell BK274.out 1).trans rfl, (blk_cell BK274.out 2).trans rfl, (blk_cell BK274.out 3).trans rfl, (blk_cell BK274.out 4).trans rfl⟩ (fun hHeld => ?_)
                        clear hK K
                        refine nm (some 15) ?_
                        refine pu (i := 3) (N := some 16) (lk 33 15) ?_
                        refine pu (i := 4) (N := some 17) (lk 33 31) ?_
                        refine pu (i := 5) (N := some 18) (lk 33 63) ?_
                        refine pu (i := 7) (N := some 20) (lk 33 191) ?_
                        refine pu (i := 9) (N := some 22) (lk 33 703) ?_
                        refine tk9 (i := 6) (N := some 19) (lk 33 767) ?_
                        refine pu (i := 8) (N := some 21) (lk 33 1023) ?_
                        refine tk9 (i := 10) (N := some 23) (lk 33 2047) ?_
                        refine on1 (i := 11) (N := some 24) (lk 33 4095) (fun K hK => ?_)
                        refine goes_ Try.func33 (by kernel_rfl) rfl #[.slice (some ad276) y279.length c0_3, .string ((rd_T59 l0_3 x8_1).f0)] (by rfl) rfl rfl (by (try simp only [List.map_toArray, List.map_cons, List.map_nil]); first | done | rfl | (simp only [List.length_drop, List.length_take]; rfl)) ?_
                        with_reducible refine (quota_find.calls _ _ y279 ((rd_T59 l0_3 x8_1).f0) t283 _ ?side1 ?side2 A11.out).mono ?_
                        (case side1 => repeat (first | exact (Kd.C_below HR282.out HB.out) | (with_reducible refine Kd.C_alloc ?_ _) | (with_reducible refine Kd.C_drewN ?_ _) | (with_reducible refine Kd.C_drew ?_)))
                        (case side2 => exact HC282.out)
                        rintro e w48 ⟨rfl, hb⟩
                        refine ⟨_, rfl, ?_⟩
                        have n0_ := Aside0.mk (blk_below (g := gb274) (o := .cells #[.slice A0_0 l0_0.length c0_0, .slice A0_1 l0_1.length c0_1, .slice A0_2 l0_2.length c0_2, .slice (some ad276) l0_3.length c0_3, .int .u8 a0_4] 28 (0, 0)) (by (with_reducible repeat (first | refine blk_drewN ?_ _ | refine blk_drew ?_ | refine blk_alloc ?_ _)); exact BK274.out) hb)
                        have n1_ := Aside0.mk (blk_below (g := gb277) (o := .cells #[.string ((rd_T59 l0_3 x8_1).f0), .int .i64 ((rd_T59 l0_3 x8_1).f1), .int .i64 ((rd_T59 l0_3 x8_1).f2), .int .i64 ((rd_T59 l0_3 x8_1).f3)] 59 (0, 0)) (by (with_reducible repeat (first | refine blk_drewN ?_ _ | refine blk_drew ?_ | refine blk_alloc ?_ _)); exact BK277.out) hb)
                        have n2_ := Aside0.mk (below_step (by repeat (first | (with_reducible first | exact HB.out | apply below_alloc | apply pw_below_drewN | apply below_drew1 | refine below_set ?_ GE274.out | refine below_set ?_ GE277.out) | exact HB.out)) hb)
                        clear BK274
                        clear BK277
                        clear HB
                        have BK274 := n0_
                        have BK277 := n1_
                        have HB := n2_
                        clear n0_ n1_ n2_
                        (try clear hb)
                        (try clear hb2)
                        (try clear hk)
                        (try clear hi)
                        refine hK.out _ _ ⟨(blk_cell BK277.out 0).trans rfl, (blk_cell BK277.out 1).trans rfl, (blk_cell BK277.out 2).trans rfl, (blk_cell BK277.out 3).trans rfl, (blk_cell BK274.out 0).trans rfl, (blk_cell BK274.out 1).trans rfl, (blk_cell BK274.out 2).trans rfl, (blk_cell BK274.out 3).trans rfl, (blk_cell BK274.out 4).trans rfl⟩ (fun hHeld => ?_)
                        clear hK K
                        refine nm (some 24) ?_
                        refine pu (i := 12) (N := some 25) (lk 33 8191) ?_
                        refine pu (i := 13) (N := some 26) (lk 33 16383) ?_
                        refine pu (i := 14) (N := some 27) (lk 33 32767) ?_
                        refine pu (i := 15) (N := some 28) (lk 33 65535) ?_
                        refine tk9 (i := 16) (N := some 29) (lk 33 131071) ?_
                        refine pu (i := 17) (N := some 30) (lk 33 262143) ?_
                        refine pu (i := 18) (N := some 31) (lk 33 524287) ?_
                        refine pu (i := 19) (N := some 32) (lk 33 1048575) ?_
                        refine pu (i := 20) (N := some 33) (lk 33 2097151) ?_
                        refine tk9 (i := 21) (N := some 34) (lk 33 4194303) ?_
                        refine pu (i := 22) (N := some 35) (lk 33 8388607) ?_
                        refine pu (i := 23) (N := some 36) (lk 33 16777215) ?_
                        refine pu (i := 24) (N := some 37) (lk 33 33554431) ?_
                        refine pu (i := 25) (N := some 38) (lk 33 67108863) ?_
                        refine pu (i := 27) (N := some 40) (lk 33 201326591) ?_
                        refine tk9 (i := 26) (N := some 39) (lk 33 268435455) ?_
                        refine tk9 (i := 28) (N := some 41) (lk 33 536870911) ?_
                        refine on1 (i := 29) (N := some 42) (lk 33 1073741823) (fun K hK => ?_)
                        refine Kd.R_lit_step (Kd.int .i64) _ 3 ?hg (N := 42) ?hd (xs := ([(rd_T59 l0_3 x8_1).f2, (rd_T59 l0_3 x8_1).f3] : List Int)) (inner := [.int .i64 ((rd_T59 l0_3 x8_1).f2), .int .i64 ((rd_T59 l0_3 x8_1).f3)]) (ok := fun _ => True) (okp := fun _ => True) ?hr ?hp (fun _ hk => hk) trivial (Below.refl _ _) (Nat.le_refl _) (by simp) ?_; (case hd => rfl); (case hg => rfl); (case hr => first | (go_simp; done) | (go_simp; rfl)); (case hp => exact (Reps.one (show Kd.M (Kd.int .i64) _ _ _ ((rd_T59 l0_3 x8_1).f2) [.int .i64 ((rd_T59 l0_3 x8_1).f2)] from rfl) (Reps.one (show Kd.M (Kd.int .i64) _ _ _ ((rd_T59 l0_3 x8_1).f3) [.int .i64 ((rd_T59 l0_3 x8_1).f3)] from rfl) (Reps.none _ _))))
                        intro v285 w49 ho50 hb hg_ hnew_
                        clear hg_ hnew_
                        (first | rw [← Ny284.out] at ho50 | (simp only [Int.reduceToNat] at ho50; rw [← Ny284.out] at ho50))
                        have n0_ := Aside0.mk (Kd.R_lower ho50 (below_size (by repeat (first | (with_reducible first | exact HB.out | apply below_alloc | apply pw_below_drewN | apply below_drew1 | refine below_set ?_ GE274.out | refine below_set ?_ GE277.out) | exact HB.out))))
                        have n1_ := Aside0.mk (blk_below (g := gb274) (o := .cells #[.slice A0_0 l0_0.length c0_0, .slice A0_1 l0_1.length c0_1, .slice A0_2 l0_2.length c0_2, .slice (some ad276) l0_3.length c0_3, .int .u8 a0_4] 28 (0, 0)) (by (with_reducible repeat (first | refine blk_drewN ?_ _ | refine blk_drew ?_ | refine blk_alloc ?_ _)); exact BK274.out) hb)
                        have n2_ := Aside0.mk (blk_below (g := gb277) (o := .cells #[.string ((rd_T59 l0_3 x8_1).f0), .int .i64 ((rd_T59 l0_3 x8_1).f1), .int .i64 ((rd_T59 l0_3 x8_1).f2), .int .i64 ((rd_T59 l0_3 x8_1).f3)] 59 (0, 0)) (by (with_reducible repeat (first | refine blk_drewN ?_ _ | refine blk_drew ?_ | refine blk_alloc ?_ _)); exact BK277.out) hb)
                        have n3_ := Aside0.mk (below_step (by repeat (first | (with_reducible first | exact HB.out | apply below_alloc | apply pw_below_drewN | apply below_drew1 | refine below_set ?_ GE274.out | refine below_set ?_ GE277.out) | exact HB.out)) hb)
                        clear BK274
                        clear BK277
                        clear HB
                        have HO286 := n0_
                        have BK274 := n1_
                        have BK277 := n2_
                        have HB := n3_
                        clear n0_ n1_ n2_ n3_
                        clear hb ho50
                        obtain ⟨Ao51, co51, eo51⟩ := Kd.R_slice HO286.out
                        (first | subst eo51 | (injection eo51 with f1_ f2_ f3_; have f4_ := f1_.symm; have f5_ := f3_.symm; clear f1_ f2_ f3_; subst f4_; subst f5_))
                        refine hK.out _ _ ⟨(blk_cell BK277.out 0).trans rfl, (blk_cell BK277.out 1).trans rfl, (blk_cell BK277.out 2).trans rfl, (blk_cell BK277.out 3).trans rfl, (blk_cell BK274.out 0).trans rfl, (blk_cell BK274.out 1).trans rfl, (blk_cell BK274.out 2).trans rfl, (blk_cell BK274.out 3).trans rfl, (blk_cell BK274.out 4).trans rfl⟩ (fun hHeld => ?_)
                        clear hK K
                        refine nm (some 42) ?_
                        refine on1 (i := 30) (N := some 43) (lk 33 2147483647) (fun K hK => ?_)
                        refine goes_ Try.func38 (by kernel_rfl) rfl #[.slice Ao51 y284.length co51] (by rfl) rfl rfl (by (try simp only [List.map_toArray, List.map_cons, List.map_nil]); first | done | rfl | (simp only [List.length_drop, List.length_take]; rfl)) ?_
                        with_reducible refine (quota_limit.calls _ _ y284 true _ ?side1 ?side2 A39.out).mono ?_
                        (case side1 => repeat (first | exact (Kd.R_reads' HO286.out).2.2 | (with_reducible refine Kd.C_alloc ?_ _) | (with_reducible refine Kd.C_drewN ?_ _) | (with_reducible refine Kd.C_drew ?_)))
                        (case side2 => exact (Kd.R_reads' HO286.out).2.1)
                        rintro e w52 ⟨rfl, hb⟩
                        refine ⟨_, rfl, ?_⟩
                        have n0_ := Aside0.mk (Kd.R_below (by (with_reducible repeat (first | apply Kd.R_alloc | apply Kd.R_drewN | apply Kd.R_drew)); exact HO286.out) hb)
                        have n1_ := Aside0.mk (blk_below (g := gb274) (o := .cells #[.slice A0_0 l0_0.length c0_0, .slice A0_1 l0_1.length c0_1, .slice A0_2 l0_2.length c0_2, .slice (some ad276) l0_3.length c0_3, .int .u8 a0_4] 28 (0, 0)) (by (with_reducible repeat (first | refine blk_drewN ?_ _ | refine blk_drew ?_ | refine blk_alloc ?_ _)); exact BK274.out) hb)
                        have n2_ := Aside0.mk (blk_below (g := gb277) (o := .cells #[.string ((rd_T59 l0_3 x8_1).f0), .int .i64 ((rd_T59 l0_3 x8_1).f1), .int .i64 ((rd_T59 l0_3 x8_1).f2), .int .i64 ((rd_T59 l0_3 x8_1).f3)] 59 (0, 0)) (by (with_reducible repeat (first | refine blk_drewN ?_ _ | refine blk_drew ?_ | refine blk_alloc ?_ _)); exact BK277.out) hb)
                        have n3_ := Aside0.mk (below_step (by repeat (first | (with_reducible first | exact HB.out | apply below_alloc | apply pw_below_drewN | apply below_drew1 | refine below_set ?_ GE274.out | refine below_set ?_ GE277.out) | exact HB.out)) hb)
                        clear HO286
                        clear BK274
                        clear BK277
                        clear HB
                        have HO286 := n0_
                        have BK274 := n1_
                        have BK277 := n2_
                        have HB := n3_
                        clear n0_ n1_ n2_ n3_
                        (try clear hb)
                        (try clear hb2)
                        (try clear hk)
                        (try clear hi)
                        refine hK.out _ _ ⟨(blk_cell BK277.out 0).trans rfl, (blk_cell BK277.out 1).trans rfl, (blk_cell BK277.out 2).trans rfl, (blk_cell BK277.out 3).trans rfl, (blk_cell BK274.out 0).trans rfl, (blk_cell BK274.out 1).trans rfl, (blk_cell BK274.out 2).trans rfl, (blk_cell BK274.out 3).trans rfl, (blk_cell BK274.out 4).trans rfl⟩ (fun hHeld => ?_)
                        clear hK K
                        refine nm (some 43) ?_
                        refine pu (i := 31) (N := some 44) (lk 33 4294967295) ?_
                        refine pu (i := 32) (N := some 45) (lk 33 8589934591) ?_
                        refine done_ (done_of HT_.out (by kernel_rfl)) ?_
                        try go_wp2
                        go_roundg k1
                        case measure => have := HK1.out; omega
                        case rel => exact ⟨(wrap64 (x8_1 + 1)), (by first | rfl | (simp; done) | (simp [*]; done)), H', ⟨by have := HK1.out; omega⟩, ⟨by (with_reducible repeat (first | refine blk_drewN ?_ _ | refine blk_drew ?_ | refine blk_alloc ?_ _)); exact BK274.out⟩, ⟨by repeat (first | (with_reducible first | exact HB.out | apply below_alloc | apply pw_below_drewN | apply below_drew1 | refine below_set ?_ GE274.out | refine below_set ?_ GE277.out) | exact HB.out)⟩⟩
                      · replace c40 := Bool.eq_false_iff.mpr c40
                        subst c40
                        have H1 : (some false) = some r := by rw [if_neg (show ¬ (false = true) by decide)] at H; exact H
                        clear H
                        have H := H1
                        clear H1
                        obtain rfl := Option.some.inj H
                        have p276 : 0 ≤ (x8_1 : Int) := of_decide_eq_true (by first | (with_reducible assumption) | assumption)
                        have q276 : x8_1 < (l0_3.length : Int) := of_decide_eq_true (by first | (with_reducible assumption) | assumption)
                        obtain ⟨ad276, e276, hx276_0, hx276_1, hx276_2, hx276_3⟩ := at_T59 HR0_3.out x8_1 p276 q276
                        cases e276
                        replace hx276_0 := (HB.out.cell (World.block_lt_of_cell? w _ hx276_0)).trans hx276_0
                        replace hx276_1 := (HB.out.cell (World.block_lt_of_cell? w _ hx276_1)).trans hx276_1
                        replace hx276_2 := (HB.out.cell (World.block_lt_of_cell? w _ hx276_2)).trans hx276_2
                        replace hx276_3 := (HB.out.cell (World.block_lt_of_cell? w _ hx276_3)).trans hx276_3
                        replace p276 := eq_true p276
                        replace q276 := eq_true q276
                        try go_wp2_with (first | ((with_reducible refine gate_dst (N := 4) rfl ?_); (try (refine gate_guard (by rfl) ?_; dsimp only)); refine box_event ?hg (N := 4) ?hd (cs := #[.string (⟨#[]⟩ : ByteArray), .int .i64 0, .int .i64 0, .int .i64 0]) (t := 59) ?hr ?_; (case hd => rfl); (case hg => rfl); (case hr => first | (go_simp; done) | (go_simp; rfl)); intro gb277 hg w53 hbox hb; have n0_ := Aside0.mk (blk_below (g := gb274) (o := .cells #[.slice A0_0 l0_0.length c0_0, .slice A0_1 l0_1.length c0_1, .slice A0_2 l0_2.length c0_2, .slice (some ad276) l0_3.length c0_3, .int .u8 a0_4] 28 (0, 0)) (by (with_reducible repeat (first | refine blk_drewN ?_ _ | refine blk_drew ?_ | refine blk_alloc ?_ _)); exact BK274.out) hb); have n1_ := Aside0.mk (below_step (by repeat (first | (with_reducible first | exact HB.out | apply below_alloc | apply pw_below_drewN | apply below_drew1 | refine below_set ?_ GE274.out) | exact HB.out)) hb); have n2_ := Aside0.mk (hbox); have n3_ := Aside0.mk ((by rw [hg]; exact (below_size (by repeat (first | (with_reducible first | exact HB.out | apply below_alloc | apply pw_below_drewN | apply below_drew1 | refine below_set ?_ GE274.out) | exact HB.out))) : w.heap.size ≤ gb277)); have n4_ := Aside0.mk ((by rw [hg]; exact (below_size (by repeat (first | (with_reducible first | exact HB.out | apply below_alloc | apply pw_below_drewN | apply below_drew1 | refine below_set ?_ GE274.out) | exact HB.out))) : w.heap.size ≤ gb277)); have n5_ := Aside0.mk ((by rw [hg]; exact Nat.ne_of_lt (blk_lt (g := gb274) (o := .cells #[.slice A0_0 l0_0.length c0_0, .slice A0_1 l0_1.length c0_1, .slice A0_2 l0_2.length c0_2, .slice (some ad276) l0_3.length c0_3, .int .u8 a0_4] 28 (0, 0)) (by (with_reducible repeat (first | refine blk_drewN ?_ _ | refine blk_drew ?_ | refine blk_alloc ?_ _)); exact BK274.out)) : gb274 ≠ gb277)); have n6_ := Aside0.mk ((by rw [hg]; exact Nat.ne_of_gt (blk_lt (g := gb274) (o := .cells #[.slice A0_0 l0_0.length c0_0, .slice A0_1 l0_1.length c0_1, .slice A0_2 l0_2.length c0_2, .slice (some ad276) l0_3.length c0_3, .int .u8 a0_4] 28 (0, 0)) (by (with_reducible repeat (first | refine blk_drewN ?_ _ | refine blk_drew ?_ | refine blk_alloc ?_ _)); exact BK274.out)) : gb277 ≠ gb274)); clear BK274; clear HB; have BK274 := n0_; have HB := n1_; have BK277 := n2_; have GW277 := n3_; have GE277 := n4_; have NB274_277 := n5_; have NB277_274 := n6_; clear n0_ n1_ n2_ n3_ n4_ n5_ n6_; clear hb hbox hg; have hnb54 := NB277_274.out; have hnc54 := NB274_277.out; have hcz55_0 : w53.cell? ⟨gb277, 0, none⟩ = some (.string (⟨#[]⟩ : ByteArray)) := (blk_cell BK277.out 0).trans rfl; have hcz55_1 : w53.cell? ⟨gb277, 1, none⟩ = some (.int .i64 0) := (blk_cell BK277.out 1).trans rfl; have hcz55_2 : w53.cell? ⟨gb277, 2, none⟩ = some (.int .i64 0) := (blk_cell BK277.out 2).trans rfl; have hcz55_3 : w53.cell? ⟨gb277, 3, none⟩ = some (.int .i64 0) := (blk_cell BK277.out 3).trans rfl; have hfz55_0 := blk_frozen BK277.out 0; have hfz55_1 := blk_frozen BK277.out 1; have hfz55_2 := blk_frozen BK277.out 2; have hfz55_3 := blk_frozen BK277.out 3))
                        have n0_ : Aside0 (((((w53.setCell ⟨gb277, 0, none⟩ (.string ((rd_T59 l0_3 x8_1).f0))).setCell ⟨gb277, 1, none⟩ (.int .i64 ((rd_T59 l0_3 x8_1).f1))).setCell ⟨gb277, 2, none⟩ (.int .i64 ((rd_T59 l0_3 x8_1).f2))).setCell ⟨gb277, 3, none⟩ (.int .i64 ((rd_T59 l0_3 x8_1).f3))).heap[gb274]? = some (.cells #[.slice A0_0 l0_0.length c0_0, .slice A0_1 l0_1.length c0_1, .slice A0_2 l0_2.length c0_2, .slice (some ad276) l0_3.length c0_3, .int .u8 a0_4] 28 (0, 0))) := ⟨by (with_reducible repeat (first | refine blk_drewN ?_ _ | refine blk_drew ?_ | refine blk_alloc ?_ _)); refine blk_far ?_ NB274_277.out _; (with_reducible repeat (first | refine blk_drewN ?_ _ | refine blk_drew ?_ | refine blk_alloc ?_ _)); refine blk_far ?_ NB274_277.out _; (with_reducible repeat (first | refine blk_drewN ?_ _ | refine blk_drew ?_ | refine blk_alloc ?_ _)); refine blk_far ?_ NB274_277.out _; (with_reducible repeat (first | refine blk_drewN ?_ _ | refine blk_drew ?_ | refine blk_alloc ?_ _)); refine blk_far ?_ NB274_277.out _; (with_reducible repeat (first | refine blk_drewN ?_ _ | refine blk_drew ?_ | refine blk_alloc ?_ _)); exact BK274.out⟩
                        have n1_ : Aside0 (((((w53.setCell ⟨gb277, 0, none⟩ (.string ((rd_T59 l0_3 x8_1).f0))).setCell ⟨gb277, 1, none⟩ (.int .i64 ((rd_T59 l0_3 x8_1).f1))).setCell ⟨gb277, 2, none⟩ (.int .i64 ((rd_T59 l0_3 x8_1).f2))).setCell ⟨gb277, 3, none⟩ (.int .i64 ((rd_T59 l0_3 x8_1).f3))).heap[gb277]? = some (.cells #[.string ((rd_T59 l0_3 x8_1).f0), .int .i64 ((rd_T59 l0_3 x8_1).f1), .int .i64 ((rd_T59 l0_3 x8_1).f2), .int .i64 ((rd_T59 l0_3 x8_1).f3)] 59 (0, 0))) := ⟨by (with_reducible repeat (first | refine blk_drewN ?_ _ | refine blk_drew ?_ | refine blk_alloc ?_ _)); refine blk_put (cs := #[.string ((rd_T59 l0_3 x8_1).f0), .int .i64 ((rd_T59 l0_3 x8_1).f1), .int .i64 ((rd_T59 l0_3 x8_1).f2), .int .i64 0]) ?_ 3 _ rfl; (with_reducible repeat (first | refine blk_drewN ?_ _ | refine blk_drew ?_ | refine blk_alloc ?_ _)); refine blk_put (cs := #[.string ((rd_T59 l0_3 x8_1).f0), .int .i64 ((rd_T59 l0_3 x8_1).f1), .int .i64 0, .int .i64 0]) ?_ 2 _ rfl; (with_reducible repeat (first | refine blk_drewN ?_ _ | refine blk_drew ?_ | refine blk_alloc ?_ _)); refine blk_put (cs := #[.string ((rd_T59 l0_3 x8_1).f0), .int .i64 0, .int .i64 0, .int .i64 0]) ?_ 1 _ rfl; (with_reducible repeat (first | refine blk_drewN ?_ _ | refine blk_drew ?_ | refine blk_alloc ?_ _)); refine blk_put (cs := #[.string (⟨#[]⟩ : ByteArray), .int .i64 0, .int .i64 0, .int .i64 0]) ?_ 0 _ rfl; (with_reducible repeat (first | refine blk_drewN ?_ _ | refine blk_drew ?_ | refine blk_alloc ?_ _)); exact BK277.out⟩
                        have n2_ : Aside0 (Below w.heap.size w ((((w53.setCell ⟨gb277, 0, none⟩ (.string ((rd_T59 l0_3 x8_1).f0))).setCell ⟨gb277, 1, none⟩ (.int .i64 ((rd_T59 l0_3 x8_1).f1))).setCell ⟨gb277, 2, none⟩ (.int .i64 ((rd_T59 l0_3 x8_1).f2))).setCell ⟨gb277, 3, none⟩ (.int .i64 ((rd_T59 l0_3 x8_1).f3)))) := ⟨by repeat (first | (with_reducible first | exact HB.out | apply below_alloc | apply pw_below_drewN | apply below_drew1 | refine below_set ?_ GE274.out | refine below_set ?_ GE277.out) | exact HB.out)⟩
                        (try clear BK274)
                        (try clear BK277)
                        (try clear HB)
                        generalize ((((w53.setCell ⟨gb277, 0, none⟩ (.string ((rd_T59 l0_3 x8_1).f0))).setCell ⟨gb277, 1, none⟩ (.int .i64 ((rd_T59 l0_3 x8_1).f1))).setCell ⟨gb277, 2, none⟩ (.int .i64 ((rd_T59 l0_3 x8_1).f2))).setCell ⟨gb277, 3, none⟩ (.int .i64 ((rd_T59 l0_3 x8_1).f3))) = w56 at n0_ n1_ n2_ ⊢
                        have BK274 := n0_
                        have BK277 := n1_
                        have HB := n2_
                        clear n0_ n1_ n2_
                        have n0_ := Aside0.mk (blk_drew BK274.out)
                        have n1_ := Aside0.mk (blk_drew BK277.out)
                        have n2_ := Aside0.mk (below_drew1 HB.out)
                        clear BK274
                        clear BK277
                        clear HB
                        have BK274 := n0_
                        have BK277 := n1_
                        have HB := n2_
                        clear n0_ n1_ n2_
                        refine start_ (n := 33) (S := fun w' => w'.cell? ⟨gb277, 0, none⟩ = some (.string ((rd_T59 l0_3 x8_1).f0)) ∧ w'.cell? ⟨gb277, 1, none⟩ = some (.int .i64 ((rd_T59 l0_3 x8_1).f1)) ∧ w'.cell? ⟨gb277, 2, none⟩ = some (.int .i64 ((rd_T59 l0_3 x8_1).f2)) ∧ w'.cell? ⟨gb277, 3, none⟩ = some (.int .i64 ((rd_T59 l0_3 x8_1).f3)) ∧ w'.cell? ⟨gb274, 0, none⟩ = some (.slice A0_0 l0_0.length c0_0) ∧ w'.cell? ⟨gb274, 1, none⟩ = some (.slice A0_1 l0_1.length c0_1) ∧ w'.cell? ⟨gb274, 2, none⟩ = some (.slice A0_2 l0_2.length c0_2) ∧ w'.cell? ⟨gb274, 3, none⟩ = some (.slice (some ad276) l0_3.length c0_3) ∧ w'.cell? ⟨gb274, 4, none⟩ = some (.int .u8 a0_4)) (ds := []) (lk 33 0) (by kernel_rfl) rfl rfl ⟨(blk_cell BK277.out 0).trans rfl, (blk_cell BK277.out 1).trans rfl, (blk_cell BK277.out 2).trans rfl, (blk_cell BK277.out 3).trans rfl, (blk_cell BK274.out 0).trans rfl, (blk_cell BK274.out 1).trans rfl, (blk_cell BK274.out 2).trans rfl, (blk_cell BK274.out 3).trans rfl, (blk_cell BK274.out 4).trans rfl⟩ (fun hHeld => ?_); refine with_tabW quota_Right.tab4 quota_Right.bits4 (fun HT_ HW_ => ?_)
                        generalize w56.drew = w57 at BK274 BK277 HB hHeld ⊢
                        refine pu (i := 0) (N := some 13) (lk 33 1) ?_
                        refine tk9 (i := 1) (N := some 14) (lk 33 3) ?_
                        refine on1 (i := 2) (N := some 15) (lk 33 7) (fun K hK => ?_)
                        refine goes_ Try.func37 (by kernel_rfl) rfl #[.string ((rd_T59 l0_3 x8_1).f0)] (by rfl) rfl rfl (by (try simp only [List.map_toArray, List.map_cons, List.map_nil]); first | done | rfl | (simp only [List.length_drop, List.length_take]; rfl)) ?_
                        with_reducible refine (tree_Name.calls ((rd_T59 l0_3 x8_1).f0) true _ A7.out).mono ?_
                        rintro e w58 ⟨rfl, hb⟩
                        refine ⟨_, rfl, ?_⟩
                        have n0_ := Aside0.mk (blk_below (g := gb274) (o := .cells #[.slice A0_0 l0_0.length c0_0, .slice A0_1 l0_1.length c0_1, .slice A0_2 l0_2.length c0_2, .slice (some ad276) l0_3.length c0_3, .int .u8 a0_4] 28 (0, 0)) (by (with_reducible repeat (first | refine blk_drewN ?_ _ | refine blk_drew ?_ | refine blk_alloc ?_ _)); exact BK274.out) hb)
                        have n1_ := Aside0.mk (blk_below (g := gb277) (o := .cells #[.string ((rd_T59 l0_3 x8_1).f0), .int .i64 ((rd_T59 l0_3 x8_1).f1), .int .i64 ((rd_T59 l0_3 x8_1).f2), .int .i64 ((rd_T59 l0_3 x8_1).f3)] 59 (0, 0)) (by (with_reducible repeat (first | refine blk_drewN ?_ _ | refine blk_drew ?_ | refine blk_alloc ?_ _)); exact BK277.out) hb)
                        have n2_ := Aside0.mk (below_step (by repeat (first | (with_reducible first | exact HB.out | apply below_alloc | apply pw_below_drewN | apply below_drew1 | refine below_set ?_ GE274.out | refine below_set ?_ GE277.out) | exact HB.out)) hb)
                        clear BK274
                        clear BK277
                        clear HB
                        have BK274 := n0_
                        have BK277 := n1_
                        have HB := n2_
                        clear n0_ n1_ n2_
                        (try clear hb)
                        (try clear hb2)
                        (try clear hk)
                        (try clear hi)
                        have q59 : (x8_1 : Int) ≤ ((l0_3.length : Int) : Int) := of_decide_eq_true (by first | (with_reducible assumption) | assumption)
                        obtain ⟨i059, hi059, _, hsz59, _⟩ := info_parts info59
                        have hroom59 : l0_3.length ≤ c0_3 := HC0_3.out
                        have hC59 : Kd.C k59 _ (some ad276) l0_3.length l0_3 := HR0_3.out
                        have hcut59 := cut_to (P := Try.prog) 25 59 .i64 Try.underlying25 hi059 (some ad276) l0_3.length c0_3 x8_1 (of_decide_eq_true (by first | (with_reducible assumption) | assumption)) q59 hroom59
                        have hr59 := Kd.C_take (m := (x8_1 : Int).toNat) hC59 (by omega)
                        have hy59 : y279.length = (x8_1 : Int).toNat := (by rw [Ny279.out, List.length_take]; omega)
                        rw [← Ny279.out] at hr59
                        rw [← hy59] at hcut59
                        have HR282 := Aside0.mk hr59
                        have HC282 := Aside0.mk (show y279.length ≤ c0_3 from by omega)
                        clear hr59 hC59 hroom59 hi059 hsz59
                        have KY59 := Aside0.mk hy59
                        clear hy59
                        replace q59 := eq_true q59
                        refine hK.out _ _ ⟨(blk_cell BK277.out 0).trans rfl, (blk_cell BK277.out 1).trans rfl, (blk_cell BK277.out 2).trans rfl, (blk_cell BK277.out 3).trans rfl, (blk_cell BK274.out 0).trans rfl, (blk_cell BK274.out 1).trans rfl, (blk_cell BK274.out 2).trans rfl, (blk_cell BK274.out 3).trans rfl, (blk_cell BK274.out 4).trans rfl⟩ (fun hHeld => ?_)
                        clear hK K
                        refine nm (some 15) ?_
                        refine pu (i := 3) (N := some 16) (lk 33 15) ?_
                        refine pu (i := 4) (N := some 17) (lk 33 31) ?_
                        refine pu (i := 5) (N := some 18) (lk 33 63) ?_
                        refine pu (i := 7) (N := some 20) (lk 33 191) ?_
                        refine pu (i := 9) (N := some 22) (lk 33 703) ?_
                        refine tk9 (i := 6) (N := some 19) (lk 33 767) ?_
                        refine pu (i := 8) (N := some 21) (lk 33 1023) ?_
                        refine tk9 (i := 10) (N := some 23) (lk 33 2047) ?_
                        refine on1 (i := 11) (N := some 24) (lk 33 4095) (fun K hK => ?_)
                        refine goes_ Try.func33 (by kernel_rfl) rfl #[.slice (some ad276) y279.length c0_3, .string ((rd_T59 l0_3 x8_1).f0)] (by rfl) rfl rfl (by (try simp only [List.map_toArray, List.map_cons, List.map_nil]); first | done | rfl | (simp only [List.length_drop, List.length_take]; rfl)) ?_
                        with_reducible refine (quota_find.calls _ _ y279 ((rd_T59 l0_3 x8_1).f0) t283 _ ?side1 ?side2 A11.out).mono ?_
                        (case side1 => repeat (first | exact (Kd.C_below HR282.out HB.out) | (with_reducible refine Kd.C_alloc ?_ _) | (with_reducible refine Kd.C_drewN ?_ _) | (with_reducible refine Kd.C_drew ?_)))
                        (case side2 => exact HC282.out)
                        rintro e w60 ⟨rfl, hb⟩
                        refine ⟨_, rfl, ?_⟩
                        have n0_ := Aside0.mk (blk_below (g := gb274) (o := .cells #[.slice A0_0 l0_0.length c0_0, .slice A0_1 l0_1.length c0_1, .slice A0_2 l0_2.length c0_2, .slice (some ad276) l0_3.length c0_3, .int .u8 a0_4] 28 (0, 0)) (by (with_reducible repeat (first | refine blk_drewN ?_ _ | refine blk_drew ?_ | refine blk_alloc ?_ _)); exact BK274.out) hb)
                        have n1_ := Aside0.mk (blk_below (g := gb277) (o := .cells #[.string ((rd_T59 l0_3 x8_1).f0), .int .i64 ((rd_T59 l0_3 x8_1).f1), .int .i64 ((rd_T59 l0_3 x8_1).f2), .int .i64 ((rd_T59 l0_3 x8_1).f3)] 59 (0, 0)) (by (with_reducible repeat (first | refine blk_drewN ?_ _ | refine blk_drew ?_ | refine blk_alloc ?_ _)); exact BK277.out) hb)
                        have n2_ := Aside0.mk (below_step (by repeat (first | (with_reducible first | exact HB.out | apply below_alloc | apply pw_below_drewN | apply below_drew1 | refine below_set ?_ GE274.out | refine below_set ?_ GE277.out) | exact HB.out)) hb)
                        clear BK274
                        clear BK277
                        clear HB
                        have BK274 := n0_
                        have BK277 := n1_
                        have HB := n2_
                        clear n0_ n1_ n2_
                        (try clear hb)
                        (try clear hb2)
                        (try clear hk)
                        (try clear hi)
                        refine hK.out _ _ ⟨(blk_cell BK277.out 0).trans rfl, (blk_cell BK277.out 1).trans rfl, (blk_cell BK277.out 2).trans rfl, (blk_cell BK277.out 3).trans rfl, (blk_cell BK274.out 0).trans rfl, (blk_cell BK274.out 1).trans rfl, (blk_cell BK274.out 2).trans rfl, (blk_cell BK274.out 3).trans rfl, (blk_cell BK274.out 4).trans rfl⟩ (fun hHeld => ?_)
                        clear hK K
                        refine nm (some 24) ?_
                        refine pu (i := 12) (N := some 25) (lk 33 8191) ?_
                        refine pu (i := 13) (N := some 26) (lk 33 16383) ?_
                        refine pu (i := 14) (N := some 27) (lk 33 32767) ?_
                        refine pu (i := 15) (N := some 28) (lk 33 65535) ?_
                        refine tk9 (i := 16) (N := some 29) (lk 33 131071) ?_
                        refine pu (i := 17) (N := some 30) (lk 33 262143) ?_
                        refine pu (i := 18) (N := some 31) (lk 33 524287) ?_
                        refine pu (i := 19) (N := some 32) (lk 33 1048575) ?_
                        refine pu (i := 20) (N := some 33) (lk 33 2097151) ?_
                        refine tk9 (i := 21) (N := some 34) (lk 33 4194303) ?_
                        refine pu (i := 22) (N := some 35) (lk 33 8388607) ?_
                        refine pu (i := 23) (N := some 36) (lk 33 16777215) ?_
                        refine pu (i := 24) (N := some 37) (lk 33 33554431) ?_
                        refine pu (i := 25) (N := some 38) (lk 33 67108863) ?_
                        refine pu (i := 27) (N := some 40) (lk 33 201326591) ?_
                        refine tk9 (i := 26) (N := some 39) (lk 33 268435455) ?_
                        refine tk9 (i := 28) (N := some 41) (lk 33 536870911) ?_
                        refine on1 (i := 29) (N := some 42) (lk 33 1073741823) (fun K hK => ?_)
                        refine Kd.R_lit_step (Kd.int .i64) _ 3 ?hg (N := 42) ?hd (xs := ([(rd_T59 l0_3 x8_1).f2, (rd_T59 l0_3 x8_1).f3] : List Int)) (inner := [.int .i64 ((rd_T59 l0_3 x8_1).f2), .int .i64 ((rd_T59 l0_3 x8_1).f3)]) (ok := fun _ => True) (okp := fun _ => True) ?hr ?hp (fun _ hk => hk) trivial (Below.refl _ _) (Nat.le_refl _) (by simp) ?_; (case hd => rfl); (case hg => rfl); (case hr => first | (go_simp; done) | (go_simp; rfl)); (case hp => exact (Reps.one (show Kd.M (Kd.int .i64) _ _ _ ((rd_T59 l0_3 x8_1).f2) [.int .i64 ((rd_T59 l0_3 x8_1).f2)] from rfl) (Reps.one (show Kd.M (Kd.int .i64) _ _ _ ((rd_T59 l0_3 x8_1).f3) [.int .i64 ((rd_T59 l0_3 x8_1).f3)] from rfl) (Reps.none _ _))))
                        intro v285 w61 ho62 hb hg_ hnew_
                        clear hg_ hnew_
                        (first | rw [← Ny284.out] at ho62 | (simp only [Int.reduceToNat] at ho62; rw [← Ny284.out] at ho62))
                        have n0_ := Aside0.mk (Kd.R_lower ho62 (below_size (by repeat (first | (with_reducible first | exact HB.out | apply below_alloc | apply pw_below_drewN | apply below_drew1 | refine below_set ?_ GE274.out | refine below_set ?_ GE277.out) | exact HB.out))))
                        have n1_ := Aside0.mk (blk_below (g := gb274) (o := .cells #[.slice A0_0 l0_0.length c0_0, .slice A0_1 l0_1.length c0_1, .slice A0_2 l0_2.length c0_2, .slice (some ad276) l0_3.length c0_3, .int .u8 a0_4] 28 (0, 0)) (by (with_reducible repeat (first | refine blk_drewN ?_ _ | refine blk_drew ?_ | refine blk_alloc ?_ _)); exact BK274.out) hb)
                        have n2_ := Aside0.mk (blk_below (g := gb277) (o := .cells #[.string ((rd_T59 l0_3 x8_1).f0), .int .i64 ((rd_T59 l0_3 x8_1).f1), .int .i64 ((rd_T59 l0_3 x8_1).f2), .int .i64 ((rd_T59 l0_3 x8_1).f3)] 59 (0, 0)) (by (with_reducible repeat (first | refine blk_drewN ?_ _ | refine blk_drew ?_ | refine blk_alloc ?_ _)); exact BK277.out) hb)
                        have n3_ := Aside0.mk (below_step (by repeat (first | (with_reducible first | exact HB.out | apply below_alloc | apply pw_below_drewN | apply below_drew1 | refine below_set ?_ GE274.out | refine below_set ?_ GE277.out) | exact HB.out)) hb)
                        clear BK274
                        clear BK277
                        clear HB
                        have HO286 := n0_
                        have BK274 := n1_
                        have BK277 := n2_
                        have HB := n3_
                        clear n0_ n1_ n2_ n3_
                        clear hb ho62
                        obtain ⟨Ao63, co63, eo63⟩ := Kd.R_slice HO286.out
                        (first | subst eo63 | (injection eo63 with f1_ f2_ f3_; have f4_ := f1_.symm; have f5_ := f3_.symm; clear f1_ f2_ f3_; subst f4_; subst f5_))
                        refine hK.out _ _ ⟨(blk_cell BK277.out 0).trans rfl, (blk_cell BK277.out 1).trans rfl, (blk_cell BK277.out 2).trans rfl, (blk_cell BK277.out 3).trans rfl, (blk_cell BK274.out 0).trans rfl, (blk_cell BK274.out 1).trans rfl, (blk_cell BK274.out 2).trans rfl, (blk_cell BK274.out 3).trans rfl, (blk_cell BK274.out 4).trans rfl⟩ (fun hHeld => ?_)
                        clear hK K
                        refine nm (some 42) ?_
                        refine on1 (i := 30) (N := some 43) (lk 33 2147483647) (fun K hK => ?_)
                        refine goes_ Try.func38 (by kernel_rfl) rfl #[.slice Ao63 y284.length co63] (by rfl) rfl rfl (by (try simp only [List.map_toArray, List.map_cons, List.map_nil]); first | done | rfl | (simp only [List.length_drop, List.length_take]; rfl)) ?_
                        with_reducible refine (quota_limit.calls _ _ y284 false _ ?side1 ?side2 A39.out).mono ?_
                        (case side1 => repeat (first | exact (Kd.R_reads' HO286.out).2.2 | (with_reducible refine Kd.C_alloc ?_ _) | (with_reducible refine Kd.C_drewN ?_ _) | (with_reducible refine Kd.C_drew ?_)))
                        (case side2 => exact (Kd.R_reads' HO286.out).2.1)
                        rintro e w64 ⟨rfl, hb⟩
                        refine ⟨_, rfl, ?_⟩
                        have n0_ := Aside0.mk (Kd.R_below (by (with_reducible repeat (first | apply Kd.R_alloc | apply Kd.R_drewN | apply Kd.R_drew)); exact HO286.out) hb)
                        have n1_ := Aside0.mk (blk_below (g := gb274) (o := .cells #[.slice A0_0 l0_0.length c0_0, .slice A0_1 l0_1.length c0_1, .slice A0_2 l0_2.length c0_2, .slice (some ad276) l0_3.length c0_3, .int .u8 a0_4] 28 (0, 0)) (by (with_reducible repeat (first | refine blk_drewN ?_ _ | refine blk_drew ?_ | refine blk_alloc ?_ _)); exact BK274.out) hb)
                        have n2_ := Aside0.mk (blk_below (g := gb277) (o := .cells #[.string ((rd_T59 l0_3 x8_1).f0), .int .i64 ((rd_T59 l0_3 x8_1).f1), .int .i64 ((rd_T59 l0_3 x8_1).f2), .int .i64 ((rd_T59 l0_3 x8_1).f3)] 59 (0, 0)) (by (with_reducible repeat (first | refine blk_drewN ?_ _ | refine blk_drew ?_ | refine blk_alloc ?_ _)); exact BK277.out) hb)
                        have n3_ := Aside0.mk (below_step (by repeat (first | (with_reducible first | exact HB.out | apply below_alloc | apply pw_below_drewN | apply below_drew1 | refine below_set ?_ GE274.out | refine below_set ?_ GE277.out) | exact HB.out)) hb)
                        clear HO286
                        clear BK274
                        clear BK277
                        clear HB
                        have HO286 := n0_
                        have BK274 := n1_
                        have BK277 := n2_
                        have HB := n3_
                        clear n0_ n1_ n2_ n3_
                        (try clear hb)
                        (try clear hb2)
                        (try clear hk)
                        (try clear hi)
                        refine hK.out _ _ ⟨(blk_cell BK277.out 0).trans rfl, (blk_cell BK277.out 1).trans rfl, (blk_cell BK277.out 2).trans rfl, (blk_cell BK277.out 3).trans rfl, (blk_cell BK274.out 0).trans rfl, (blk_cell BK274.out 1).trans rfl, (blk_cell BK274.out 2).trans rfl, (blk_cell BK274.out 3).trans rfl, (blk_cell BK274.out 4).trans rfl⟩ (fun hHeld => ?_)
                        clear hK K
                        refine nm (some 43) ?_
                        refine pu (i := 31) (N := some 44) (lk 33 4294967295) ?_
                        refine pu (i := 32) (N := some 45) (lk 33 8589934591) ?_
                        refine done_ (done_of HT_.out (by kernel_rfl)) ?_
                        try go_wp2
                        go_ret
                        exact ⟨by first | rfl | (simp [errW_none, errW_some] <;> rfl) | (simp [*, errW_none, errW_some] <;> rfl), by repeat (first | (with_reducible first | exact HB.out | apply below_alloc | apply pw_below_drewN | apply below_drew1 | refine below_set ?_ GE274.out | refine below_set ?_ GE277.out) | exact HB.out)⟩
              · rw [if_neg c10] at H
                exact absurd H (by simp)
            · replace c8 := Bool.eq_false_iff.mpr c8
              subst c8
              have H1 : (some false) = some r := by rw [if_neg (show ¬ (false = true) by decide)] at H; exact H
              clear H
              have H := H1
              clear H1
              obtain rfl := Option.some.inj H
              have p276 : 0 ≤ (x8_1 : Int) := of_decide_eq_true (by first | (with_reducible assumption) | assumption)
              have q276 : x8_1 < (l0_3.length : Int) := of_decide_eq_true (by first | (with_reducible assumption) | assumption)
              obtain ⟨ad276, e276, hx276_0, hx276_1, hx276_2, hx276_3⟩ := at_T59 HR0_3.out x8_1 p276 q276
              cases e276
              replace hx276_0 := (HB.out.cell (World.block_lt_of_cell? w _ hx276_0)).trans hx276_0
              replace hx276_1 := (HB.out.cell (World.block_lt_of_cell? w _ hx276_1)).trans hx276_1
              replace hx276_2 := (HB.out.cell (World.block_lt_of_cell? w _ hx276_2)).trans hx276_2
              replace hx276_3 := (HB.out.cell (World.block_lt_of_cell? w _ hx276_3)).trans hx276_3
              replace p276 := eq_true p276
              replace q276 := eq_true q276
              try go_wp2_with (first | ((with_reducible refine gate_dst (N := 4) rfl ?_); (try (refine gate_guard (by rfl) ?_; dsimp only)); refine box_event ?hg (N := 4) ?hd (cs := #[.string (⟨#[]⟩ : ByteArray), .int .i64 0, .int .i64 0, .int .i64 0]) (t := 59) ?hr ?_; (case hd => rfl); (case hg => rfl); (case hr => first | (go_simp; done) | (go_simp; rfl)); intro gb277 hg w65 hbox hb; have n0_ := Aside0.mk (blk_below (g := gb274) (o := .cells #[.slice A0_0 l0_0.length c0_0, .slice A0_1 l0_1.length c0_1, .slice A0_2 l0_2.length c0_2, .slice (some ad276) l0_3.length c0_3, .int .u8 a0_4] 28 (0, 0)) (by (with_reducible repeat (first | refine blk_drewN ?_ _ | refine blk_drew ?_ | refine blk_alloc ?_ _)); exact BK274.out) hb); have n1_ := Aside0.mk (below_step (by repeat (first | (with_reducible first | exact HB.out | apply below_alloc | apply pw_below_drewN | apply below_drew1 | refine below_set ?_ GE274.out) | exact HB.out)) hb); have n2_ := Aside0.mk (hbox); have n3_ := Aside0.mk ((by rw [hg]; exact (below_size (by repeat (first | (with_reducible first | exact HB.out | apply below_alloc | apply pw_below_drewN | apply below_drew1 | refine below_set ?_ GE274.out) | exact HB.out))) : w.heap.size ≤ gb277)); have n4_ := Aside0.mk ((by rw [hg]; exact (below_size (by repeat (first | (with_reducible first | exact HB.out | apply below_alloc | apply pw_below_drewN | apply below_drew1 | refine below_set ?_ GE274.out) | exact HB.out))) : w.heap.size ≤ gb277)); have n5_ := Aside0.mk ((by rw [hg]; exact Nat.ne_of_lt (blk_lt (g := gb274) (o := .cells #[.slice A0_0 l0_0.length c0_0, .slice A0_1 l0_1.length c0_1, .slice A0_2 l0_2.length c0_2, .slice (some ad276) l0_3.length c0_3, .int .u8 a0_4] 28 (0, 0)) (by (with_reducible repeat (first | refine blk_drewN ?_ _ | refine blk_drew ?_ | refine blk_alloc ?_ _)); exact BK274.out)) : gb274 ≠ gb277)); have n6_ := Aside0.mk ((by rw [hg]; exact Nat.ne_of_gt (blk_lt (g := gb274) (o := .cells #[.slice A0_0 l0_0.length c0_0, .slice A0_1 l0_1.length c0_1, .slice A0_2 l0_2.length c0_2, .slice (some ad276) l0_3.length c0_3, .int .u8 a0_4] 28 (0, 0)) (by (with_reducible repeat (first | refine blk_drewN ?_ _ | refine blk_drew ?_ | refine blk_alloc ?_ _)); exact BK274.out)) : gb277 ≠ gb274)); clear BK274; clear HB; have BK274 := n0_; have HB := n1_; have BK277 := n2_; have GW277 := n3_; have GE277 := n4_; have NB274_277 := n5_; have NB277_274 := n6_; clear n0_ n1_ n2_ n3_ n4_ n5_ n6_; clear hb hbox hg; have hnb66 := NB277_274.out; have hnc66 := NB274_277.out; have hcz67_0 : w65.cell? ⟨gb277, 0, none⟩ = some (.string (⟨#[]⟩ : ByteArray)) := (blk_cell BK277.out 0).trans rfl; have hcz67_1 : w65.cell? ⟨gb277, 1, none⟩ = some (.int .i64 0) := (blk_cell BK277.out 1).trans rfl; have hcz67_2 : w65.cell? ⟨gb277, 2, none⟩ = some (.int .i64 0) := (blk_cell BK277.out 2).trans rfl; have hcz67_3 : w65.cell? ⟨gb277, 3, none⟩ = some (.int .i64 0) := (blk_cell BK277.out 3).trans rfl; have hfz67_0 := blk_frozen BK277.out 0; have hfz67_1 := blk_frozen BK277.out 1; have hfz67_2 := blk_frozen BK277.out 2; have hfz67_3 := blk_frozen BK277.out 3))
              have n0_ : Aside0 (((((w65.setCell ⟨gb277, 0, none⟩ (.string ((rd_T59 l0_3 x8_1).f0))).setCell ⟨gb277, 1, none⟩ (.int .i64 ((rd_T59 l0_3 x8_1).f1))).setCell ⟨gb277, 2, none⟩ (.int .i64 ((rd_T59 l0_3 x8_1).f2))).setCell ⟨gb277, 3, none⟩ (.int .i64 ((rd_T59 l0_3 x8_1).f3))).heap[gb274]? = some (.cells #[.slice A0_0 l0_0.length c0_0, .slice A0_1 l0_1.length c0_1, .slice A0_2 l0_2.length c0_2, .slice (some ad276) l0_3.length c0_3, .int .u8 a0_4] 28 (0, 0))) := ⟨by (with_reducible repeat (first | refine blk_drewN ?_ _ | refine blk_drew ?_ | refine blk_alloc ?_ _)); refine blk_far ?_ NB274_277.out _; (with_reducible repeat (first | refine blk_drewN ?_ _ | refine blk_drew ?_ | refine blk_alloc ?_ _)); refine blk_far ?_ NB274_277.out _; (with_reducible repeat (first | refine blk_drewN ?_ _ | refine blk_drew ?_ | refine blk_alloc ?_ _)); refine blk_far ?_ NB274_277.out _; (with_reducible repeat (first | refine blk_drewN ?_ _ | refine blk_drew ?_ | refine blk_alloc ?_ _)); refine blk_far ?_ NB274_277.out _; (with_reducible repeat (first | refine blk_drewN ?_ _ | refine blk_drew ?_ | refine blk_alloc ?_ _)); exact BK274.out⟩
              have n1_ : Aside0 (((((w65.setCell ⟨gb277, 0, none⟩ (.string ((rd_T59 l0_3 x8_1).f0))).setCell ⟨gb277, 1, none⟩ (.int .i64 ((rd_T59 l0_3 x8_1).f1))).setCell ⟨gb277, 2, none⟩ (.int .i64 ((rd_T59 l0_3 x8_1).f2))).setCell ⟨gb277, 3, none⟩ (.int .i64 ((rd_T59 l0_3 x8_1).f3))).heap[gb277]? = some (.cells #[.string ((rd_T59 l0_3 x8_1).f0), .int .i64 ((rd_T59 l0_3 x8_1).f1), .int .i64 ((rd_T59 l0_3 x8_1).f2), .int .i64 ((rd_T59 l0_3 x8_1).f3)] 59 (0, 0))) := ⟨by (with_reducible repeat (first | refine blk_drewN ?_ _ | refine blk_drew ?_ | refine blk_alloc ?_ _)); refine blk_put (cs := #[.string ((rd_T59 l0_3 x8_1).f0), .int .i64 ((rd_T59 l0_3 x8_1).f1), .int .i64 ((rd_T59 l0_3 x8_1).f2), .int .i64 0]) ?_ 3 _ rfl; (with_reducible repeat (first | refine blk_drewN ?_ _ | refine blk_drew ?_ | refine blk_alloc ?_ _)); refine blk_put (cs := #[.string ((rd_T59 l0_3 x8_1).f0), .int .i64 ((rd_T59 l0_3 x8_1).f1), .int .i64 0, .int .i64 0]) ?_ 2 _ rfl; (with_reducible repeat (first | refine blk_drewN ?_ _ | refine blk_drew ?_ | refine blk_alloc ?_ _)); refine blk_put (cs := #[.string ((rd_T59 l0_3 x8_1).f0), .int .i64 0, .int .i64 0, .int .i64 0]) ?_ 1 _ rfl; (with_reducible repeat (first | refine blk_drewN ?_ _ | refine blk_drew ?_ | refine blk_alloc ?_ _)); refine blk_put (cs := #[.string (⟨#[]⟩ : ByteArray), .int .i64 0, .int .i64 0, .int .i64 0]) ?_ 0 _ rfl; (with_reducible repeat (first | refine blk_drewN ?_ _ | refine blk_drew ?_ | refine blk_alloc ?_ _)); exact BK277.out⟩
              have n2_ : Aside0 (Below w.heap.size w ((((w65.setCell ⟨gb277, 0, none⟩ (.string ((rd_T59 l0_3 x8_1).f0))).setCell ⟨gb277, 1, none⟩ (.int .i64 ((rd_T59 l0_3 x8_1).f1))).setCell ⟨gb277, 2, none⟩ (.int .i64 ((rd_T59 l0_3 x8_1).f2))).setCell ⟨gb277, 3, none⟩ (.int .i64 ((rd_T59 l0_3 x8_1).f3)))) := ⟨by repeat (first | (with_reducible first | exact HB.out | apply below_alloc | apply pw_below_drewN | apply below_drew1 | refine below_set ?_ GE274.out | refine below_set ?_ GE277.out) | exact HB.out)⟩
              (try clear BK274)
              (try clear BK277)
              (try clear HB)
              generalize ((((w65.setCell ⟨gb277, 0, none⟩ (.string ((rd_T59 l0_3 x8_1).f0))).setCell ⟨gb277, 1, none⟩ (.int .i64 ((rd_T59 l0_3 x8_1).f1))).setCell ⟨gb277, 2, none⟩ (.int .i64 ((rd_T59 l0_3 x8_1).f2))).setCell ⟨gb277, 3, none⟩ (.int .i64 ((rd_T59 l0_3 x8_1).f3))) = w68 at n0_ n1_ n2_ ⊢
              have BK274 := n0_
              have BK277 := n1_
              have HB := n2_
              clear n0_ n1_ n2_
              have n0_ := Aside0.mk (blk_drew BK274.out)
              have n1_ := Aside0.mk (blk_drew BK277.out)
              have n2_ := Aside0.mk (below_drew1 HB.out)
              clear BK274
              clear BK277
              clear HB
              have BK274 := n0_
              have BK277 := n1_
              have HB := n2_
              clear n0_ n1_ n2_
              refine start_ (n := 33) (S := fun w' => w'.cell? ⟨gb277, 0, none⟩ = some (.string ((rd_T59 l0_3 x8_1).f0)) ∧ w'.cell? ⟨gb277, 1, none⟩ = some (.int .i64 ((rd_T59 l0_3 x8_1).f1)) ∧ w'.cell? ⟨gb277, 2, none⟩ = some (.int .i64 ((rd_T59 l0_3 x8_1).f2)) ∧ w'.cell? ⟨gb277, 3, none⟩ = some (.int .i64 ((rd_T59 l0_3 x8_1).f3))) (ds := []) (lk 33 0) (by kernel_rfl) rfl rfl ⟨(blk_cell BK277.out 0).trans rfl, (blk_cell BK277.out 1).trans rfl, (blk_cell BK277.out 2).trans rfl, (blk_cell BK277.out 3).trans rfl⟩ (fun hHeld => ?_); refine with_tabW quota_Right.tab4 quota_Right.bits4 (fun HT_ HW_ => ?_)
              generalize w68.drew = w69 at BK274 BK277 HB hHeld ⊢
              refine pu (i := 0) (N := some 13) (lk 33 1) ?_
              refine tk4 (i := 1) (N := some 14) (lk 33 3) ?_
              refine on1 (i := 2) (N := some 15) (lk 33 7) (fun K hK => ?_)
              refine goes_ Try.func37 (by kernel_rfl) rfl #[.string ((rd_T59 l0_3 x8_1).f0)] (by rfl) rfl rfl (by (try simp only [List.map_toArray, List.map_cons, List.map_nil]); first | done | rfl | (simp only [List.length_drop, List.length_take]; rfl)) ?_
              with_reducible refine (tree_Name.calls ((rd_T59 l0_3 x8_1).f0) false _ A7.out).mono ?_
              rintro e w70 ⟨rfl, hb⟩
              refine ⟨_, rfl, ?_⟩
              have n0_ := Aside0.mk (blk_below (g := gb274) (o := .cells #[.slice A0_0 l0_0.length c0_0, .slice A0_1 l0_1.length c0_1, .slice A0_2 l0_2.length c0_2, .slice (some ad276) l0_3.length c0_3, .int .u8 a0_4] 28 (0, 0)) (by (with_reducible repeat (first | refine blk_drewN ?_ _ | refine blk_drew ?_ | refine blk_alloc ?_ _)); exact BK274.out) hb)
              have n1_ := Aside0.mk (blk_below (g := gb277) (o := .cells #[.string ((rd_T59 l0_3 x8_1).f0), .int .i64 ((rd_T59 l0_3 x8_1).f1), .int .i64 ((rd_T59 l0_3 x8_1).f2), .int .i64 ((rd_T59 l0_3 x8_1).f3)] 59 (0, 0)) (by (with_reducible repeat (first | refine blk_drewN ?_ _ | refine blk_drew ?_ | refine blk_alloc ?_ _)); exact BK277.out) hb)
              have n2_ := Aside0.mk (below_step (by repeat (first | (with_reducible first | exact HB.out | apply below_alloc | apply pw_below_drewN | apply below_drew1 | refine below_set ?_ GE274.out | refine below_set ?_ GE277.out) | exact HB.out)) hb)
              clear BK274
              clear BK277
              clear HB
              have BK274 := n0_
              have BK277 := n1_
              have HB := n2_
              clear n0_ n1_ n2_
              (try clear hb)
              (try clear hb2)
              (try clear hk)
              (try clear hi)
              refine hK.out _ _ ⟨(blk_cell BK277.out 0).trans rfl, (blk_cell BK277.out 1).trans rfl, (blk_cell BK277.out 2).trans rfl, (blk_cell BK277.out 3).trans rfl⟩ (fun hHeld => ?_)
              clear hK K
              refine nm (some 15) ?_
              refine pu (i := 3) (N := some 16) (lk 33 15) ?_
              refine pu (i := 4) (N := some 17) (lk 33 31) ?_
              refine pd (i := 5) (N := some 18) (lk 33 63) ?_
              refine pd (i := 6) (N := some 19) (lk 33 127) ?_
              refine pd (i := 7) (N := some 20) (lk 33 255) ?_
              refine pd (i := 8) (N := some 21) (lk 33 511) ?_
              refine pd (i := 9) (N := some 22) (lk 33 1023) ?_
              refine pd (i := 10) (N := some 23) (lk 33 2047) ?_
              refine pd (i := 11) (N := some 24) (lk 33 4095) ?_
              refine pd (i := 12) (N := some 25) (lk 33 8191) ?_
              refine pu (i := 13) (N := some 26) (lk 33 16383) ?_
              refine pu (i := 14) (N := some 27) (lk 33 32767) ?_
              refine pd (i := 15) (N := some 28) (lk 33 65535) ?_
              refine pd (i := 16) (N := some 29) (lk 33 131071) ?_
              refine pd (i := 17) (N := some 30) (lk 33 262143) ?_
              refine pu (i := 18) (N := some 31) (lk 33 524287) ?_
              refine pu (i := 19) (N := some 32) (lk 33 1048575) ?_
              refine pd (i := 20) (N := some 33) (lk 33 2097151) ?_
              refine pd (i := 21) (N := some 34) (lk 33 4194303) ?_
              refine pd (i := 22) (N := some 35) (lk 33 8388607) ?_
              refine pu (i := 23) (N := some 36) (lk 33 16777215) ?_
              refine pu (i := 24) (N := some 37) (lk 33 33554431) ?_
              refine pd (i := 25) (N := some 38) (lk 33 67108863) ?_
              refine pd (i := 26) (N := some 39) (lk 33 134217727) ?_
              refine pd (i := 27) (N := some 40) (lk 33 268435455) ?_
              refine pd (i := 28) (N := some 41) (lk 33 536870911) ?_
              refine pd (i := 29) (N := some 42) (lk 33 1073741823) ?_
              refine pd (i := 30) (N := some 43) (lk 33 2147483647) ?_
              refine pd (i := 31) (N := some 44) (lk 33 4294967295) ?_
              refine pu (i := 32) (N := some 45) (lk 33 8589934591) ?_
              refine done_ (done_of HT_.out (by kernel_rfl)) ?_
              try go_wp2
              go_ret
              exact ⟨by first | rfl | (simp [errW_none, errW_some] <;> rfl) | (simp [*, errW_none, errW_some] <;> rfl), by repeat (first | (with_reducible first | exact HB.out | apply below_alloc | apply pw_below_drewN | apply below_drew1 | refine below_set ?_ GE274.out | refine below_set ?_ GE277.out) | exact HB.out)⟩
          · rw [if_neg c6] at H
            exact absurd H (by simp)
        · rw [if_neg c5] at H
          exact absurd H (by simp)
      · rw [if_neg c4] at H
        have c4b0 : decide (x8_1 < (l0_3.length : Int)) = false := decide_eq_false c4
        clear c4
        by_cases c71 : (l0_3.length : Int) ≥ 1
        · rw [if_pos c71] at H
          have c71b0 : decide (1 ≤ (l0_3.length : Int)) = true := decide_eq_true c71
          have c71b1 : decide (1 ≤ l0_3.length) = true := decide_eq_true (by omega)
          clear c71
          by_cases c72 : (l0_3.length : Int) ≤ 8
          · rw [if_pos c72] at H
            have c72b0 : decide ((l0_3.length : Int) ≤ 8) = true := decide_eq_true c72
            have c72b1 : decide (l0_3.length ≤ 8) = true := decide_eq_true (by omega)
            clear c72
            replace H := Option.bind_eq_some_iff.mp H
            obtain ⟨t275, A730, H⟩ := H
            replace H : (some t275) = some r := H
            have A73 := Aside0.mk A730
            clear A730
            obtain rfl := Option.some.inj H
            have hcz74_0 : wr.cell? ⟨gb274, 0, none⟩ = some (.slice A0_0 l0_0.length c0_0) := (blk_cell BK274.out 0).trans rfl
            have hcz74_1 : wr.cell? ⟨gb274, 1, none⟩ = some (.slice A0_1 l0_1.length c0_1) := (blk_cell BK274.out 1).trans rfl
            have hcz74_2 : wr.cell? ⟨gb274, 2, none⟩ = some (.slice A0_2 l0_2.length c0_2) := (blk_cell BK274.out 2).trans rfl
            have hcz74_3 : wr.cell? ⟨gb274, 3, none⟩ = some (.slice A0_3 l0_3.length c0_3) := (blk_cell BK274.out 3).trans rfl
            have hcz74_4 : wr.cell? ⟨gb274, 4, none⟩ = some (.int .u8 a0_4) := (blk_cell BK274.out 4).trans rfl
            have hfz74_0 := blk_frozen BK274.out 0
            have hfz74_1 := blk_frozen BK274.out 1
            have hfz74_2 := blk_frozen BK274.out 2
            have hfz74_3 := blk_frozen BK274.out 3
            have hfz74_4 := blk_frozen BK274.out 4
            go_wp2_with (first | (go_at_call 39; (with_reducible refine (tree_Right.calls _ _ l0_2 t275 _ ?side1 ?side2 A73.out).mono ?_); (case side1 => repeat (first | exact (Kd.C_below HR0_2.out HB.out) | (with_reducible refine Kd.C_alloc ?_ _) | (with_reducible refine Kd.C_drewN ?_ _) | (with_reducible refine Kd.C_drew ?_))); (case side2 => exact HC0_2.out); rintro e w75 ⟨rfl, hb⟩; have n0_ := Aside0.mk (blk_below (g := gb274) (o := .cells #[.slice A0_0 l0_0.length c0_0, .slice A0_1 l0_1.length c0_1, .slice A0_2 l0_2.length c0_2, .slice A0_3 l0_3.length c0_3, .int .u8 a0_4] 28 (0, 0)) (by (with_reducible repeat (first | refine blk_drewN ?_ _ | refine blk_drew ?_ | refine blk_alloc ?_ _)); exact BK274.out) hb); have n1_ := Aside0.mk (below_step (by repeat (first | (with_reducible first | exact HB.out | apply below_alloc | apply pw_below_drewN | apply below_drew1 | refine below_set ?_ GE274.out) | exact HB.out)) hb); clear BK274; clear HB; have BK274 := n0_; have HB := n1_; clear n0_ n1_; (try clear hb); (try clear hb2); (try clear hk); (try clear hi)))
            go_ret
            exact ⟨by first | rfl | (simp [errW_none, errW_some] <;> rfl) | (simp [*, errW_none, errW_some] <;> rfl), by repeat (first | (with_reducible first | exact HB.out | apply below_alloc | apply pw_below_drewN | apply below_drew1 | refine below_set ?_ GE274.out) | exact HB.out)⟩
          · rw [if_neg c72] at H
            have c72b0 : decide ((l0_3.length : Int) ≤ 8) = false := decide_eq_false c72
            have c72b1 : decide (l0_3.length ≤ 8) = false := decide_eq_false (by omega)
            clear c72
            obtain rfl := Option.some.inj H
            have hcz76_0 : wr.cell? ⟨gb274, 0, none⟩ = some (.slice A0_0 l0_0.length c0_0) := (blk_cell BK274.out 0).trans rfl
            have hcz76_1 : wr.cell? ⟨gb274, 1, none⟩ = some (.slice A0_1 l0_1.length c0_1) := (blk_cell BK274.out 1).trans rfl
            have hcz76_2 : wr.cell? ⟨gb274, 2, none⟩ = some (.slice A0_2 l0_2.length c0_2) := (blk_cell BK274.out 2).trans rfl
            have hcz76_3 : wr.cell? ⟨gb274, 3, none⟩ = some (.slice A0_3 l0_3.length c0_3) := (blk_cell BK274.out 3).trans rfl
            have hcz76_4 : wr.cell? ⟨gb274, 4, none⟩ = some (.int .u8 a0_4) := (blk_cell BK274.out 4).trans rfl
            have hfz76_0 := blk_frozen BK274.out 0
            have hfz76_1 := blk_frozen BK274.out 1
            have hfz76_2 := blk_frozen BK274.out 2
            have hfz76_3 := blk_frozen BK274.out 3
            have hfz76_4 := blk_frozen BK274.out 4
            go_wp2
            go_ret
            exact ⟨by first | rfl | (simp [errW_none, errW_some] <;> rfl) | (simp [*, errW_none, errW_some] <;> rfl), by repeat (first | (with_reducible first | exact HB.out | apply below_alloc | apply pw_below_drewN | apply below_drew1 | refine below_set ?_ GE274.out) | exact HB.out)⟩
        · rw [if_neg c71] at H
          have c71b0 : decide (1 ≤ (l0_3.length : Int)) = false := decide_eq_false c71
          have c71b1 : decide (1 ≤ l0_3.length) = false := decide_eq_false (by omega)
          clear c71
          obtain rfl := Option.some.inj H
          have hcz77_0 : wr.cell? ⟨gb274, 0, none⟩ = some (.slice A0_0 l0_0.length c0_0) := (blk_cell BK274.out 0).trans rfl
          have hcz77_1 : wr.cell? ⟨gb274, 1, none⟩ = some (.slice A0_1 l0_1.length c0_1) := (blk_cell BK274.out 1).trans rfl
          have hcz77_2 : wr.cell? ⟨gb274, 2, none⟩ = some (.slice A0_2 l0_2.length c0_2) := (blk_cell BK274.out 2).trans rfl
          have hcz77_3 : wr.cell? ⟨gb274, 3, none⟩ = some (.slice A0_3 l0_3.length c0_3) := (blk_cell BK274.out 3).trans rfl
          have hcz77_4 : wr.cell? ⟨gb274, 4, none⟩ = some (.int .u8 a0_4) := (blk_cell BK274.out 4).trans rfl
          have hfz77_0 := blk_frozen BK274.out 0
          have hfz77_1 := blk_frozen BK274.out 1
          have hfz77_2 := blk_frozen BK274.out 2
          have hfz77_3 := blk_frozen BK274.out 3
          have hfz77_4 := blk_frozen BK274.out 4
          go_wp2
          go_ret
          exact ⟨by first | rfl | (simp [errW_none, errW_some] <;> rfl) | (simp [*, errW_none, errW_some] <;> rfl), by repeat (first | (with_reducible first | exact HB.out | apply below_alloc | apply pw_below_drewN | apply below_drew1 | refine below_set ?_ GE274.out) | exact HB.out)⟩

end Go.Proofs.Ytcnobkcddgcifaa.PT
/- quota.Right, in plain Lean. (A part of the print PT.) -/
set_option linter.unusedVariables false
set_option linter.unusedSimpArgs false
namespace Go.Proofs.Ytcnobkcddgcifaa.PT
open Go.RowKit Go.Proofs.YtcnobkcddgcifaaW.PrintWords Go.Proofs.YtcnobkcddgcifaaW.PrintLast Go.Proofs.YtcnobkcddgcifaaW.PrintMore Go.Proofs.Ytcnobkcddgcifaa.Gen Go.Proofs.Ytcnobkcddgcifaa.EvK
/-- May a quality stand behind those ahead of it? -/
def okQ (ahead : List S59) (x : S59) : Bool := nameOK x.f0 && !(ahead.any (isQ x.f0)) && decide (0 ≤ x.f1 ∧ x.f1 ≤ 1000) && limQ [x.f2, x.f3]
def allQ (l : List S59) : Nat → Bool
  | 0 => true
  | j + 1 => allQ l j && (match l[j]? with | some x => okQ (l.take j) x | none => true)
def rightQ (q : List S59) (a : List S57) : Bool := allQ q q.length && decide (1 ≤ q.length ∧ q.length ≤ 8) && rightA a
theorem allQ_step (l : List S59) (j : Nat) (h : j < l.length) : allQ l (j + 1) = (allQ l j && okQ (l.take j) l[j]) := by rw [allQ, List.getElem?_eq_getElem h]
theorem allQ_bad (l : List S59) (j : Nat) (h : allQ l j = false) : ∀ n, j ≤ n → allQ l n = false := by
  intro n hn
  induction n with
  | zero => obtain rfl : j = 0 := by omega
            exact h
  | succ n ih =>
    rcases Nat.lt_or_ge n j with h1 | h1
    · obtain rfl : j = n + 1 := by omega
      exact h
    · rw [allQ, ih h1, Bool.false_and]
theorem rdQ (l : List S59) (j : Nat) (h : j < l.length) : rd_T59 l (j : Int) = l[j] := by unfold rd_T59; simp [List.getD, h]
theorem right_l0 (c : List Int) (ps : List S87) (ac : List S57) (q : List S59) (pl : Int) (hq : q.length ≤ 9223372036854775807) : ∀ d j, q.length - j = d → j ≤ q.length → allQ q j = true → Ev (fun k => quota_Right.l0 k q (q.length : Int) (j : Int) c ps ac q pl) (rightQ q ac)
  | 0, j, hd, hj, ha => by
    obtain rfl : j = q.length := by omega
    refine Ev.stp (fun k => by rw [quota_Right.l0]) (Ev.neg (by omega) ?_)
    by_cases h1 : (q.length : Int) ≥ 1
    · by_cases h2 : (q.length : Int) ≤ 8
      · refine Ev.pos h1 (Ev.pos h2 (Ev.bnd (a := rightA ac) (Ev.const rfl) (Ev.one ?_)))
        unfold rightQ
        rw [ha, decide_eq_true (by omega)]
        simp
      · refine Ev.pos h1 (Ev.neg h2 (Ev.one ?_))
        unfold rightQ
        rw [decide_eq_false (by omega)]
        simp
    · refine Ev.neg h1 (Ev.one ?_)
      unfold rightQ
      rw [decide_eq_false (by omega)]
      simp
  | d + 1, j, hd, hj, ha => by
    have hlt : j < q.length := by omega
    have hst := allQ_step q j hlt
    rw [ha, Bool.true_and] at hst
    have bad : okQ (q.take j) q[j] = false → false = rightQ q ac := fun h => by
      rw [h] at hst
      unfold rightQ
      rw [allQ_bad q (j + 1) hst q.length (by omega)]
      rfl
    refine Ev.stp (fun k => by rw [quota_Right.l0]) (Ev.pos (by omega) (Ev.pos (by omega) (Ev.pos (by omega) ?_)))
    rw [rdQ q j hlt, Int.toNat_natCast]
    refine Ev.bnd (a := nameOK q[j].f0) (Ev.const rfl) ?_
    by_cases h1 : nameOK q[j].f0 = true
    case neg => exact Ev.neg h1 (Ev.one (bad (by unfold okQ; rw [Bool.not_eq_true] at h1; rw [h1]; rfl)))
    refine Ev.pos h1 (Ev.pos (by omega) (Ev.bnd (a := idxOf (q.take j) (isQ q[j].f0)) (Ev.const rfl) ?_))
    have hge := idxOf_ge (q.take j) (isQ q[j].f0)
    cases h2 : (q.take j).any (isQ q[j].f0) with
    | true =>
      rw [h2] at hge
      exact Ev.pos (of_decide_eq_true hge) (Ev.one (bad (by unfold okQ; rw [h1, h2]; rfl)))
    | false =>
      rw [h2] at hge
      refine Ev.neg (of_decide_eq_false hge) ?_
      by_cases h3 : q[j].f1 < 0
      · exact Ev.pos h3 (Ev.one (bad (by unfold okQ; rw [decide_eq_false (by omega)]; simp)))
      refine Ev.neg h3 ?_
      by_cases h4 : q[j].f1 > 1000
      · exact Ev.pos h4 (Ev.one (bad (by unfold okQ; rw [decide_eq_false (by omega)]; simp)))
      refine Ev.neg h4 (Ev.bnd (a := limQ [q[j].f2, q[j].f3]) (Ev.const rfl) ?_)
      by_cases h5 : limQ [q[j].f2, q[j].f3] = true
      case neg => exact Ev.neg h5 (Ev.one (bad (by unfold okQ; rw [Bool.not_eq_true] at h5; rw [h5]; simp)))
      refine Ev.pos h5 ?_
      rw [show wrap64 ((j : Int) + 1) = ((j + 1 : Nat) : Int) by unfold wrap64; omega]
      refine right_l0 c ps ac q pl hq d (j + 1) (by omega) (by omega) ?_
      rw [hst]
      unfold okQ
      rw [h1, h2, h5, decide_eq_true (by omega)]
      rfl
theorem right_ev (c : List Int) (ps : List S87) (ac : List S57) (q : List S59) (pl : Int) (hq : q.length ≤ 9223372036854775807) : Ev (fun k => quota_Right.f k c ps ac q pl) (rightQ q ac) := right_l0 c ps ac q pl hq _ 0 rfl (Nat.zero_le _) rfl
/-- A configuration's value. -/
def cfgV (A0 : Option Addr) (n0 c0 : Nat) (A1 : Option Addr) (n1 c1 : Nat) (A2 : Option Addr) (n2 c2 : Nat) (A3 : Option Addr) (n3 c3 : Nat) (pl : Int) : Array Value := #[.slice A0 n0 c0, .slice A1 n1 c1, .slice A2 n2 c2, .slice A3 n3 c3, .int .u8 pl]
/-- A configuration in memory. -/
structure Cfg (w : World) (cs : Array Value) (q : List S59) (ac : List S57) : Prop where
  is : ∃ A0 c0 l0 A1 c1 l1 A2 c2 A3 c3 pl, cs = cfgV A0 (l0 : List Int).length c0 A1 (l1 : List S87).length c1 A2 ac.length c2 A3 q.length c3 pl ∧ Kd.C (Kd.int .i64) w A0 l0.length l0 ∧ l0.length ≤ c0 ∧ Kd.C k87 w A1 l1.length l1 ∧ l1.length ≤ c1 ∧ Kd.C k57 w A2 ac.length ac ∧ ac.length ≤ c2 ∧ Kd.C k59 w A3 q.length q ∧ q.length ≤ c3
theorem Cfg.below {w w1 : World} {cs : Array Value} {q : List S59} {ac : List S57} (h : Cfg w cs q ac) (hb : Below w.heap.size w w1) : Cfg w1 cs q ac := by
  obtain ⟨A0, c0, l0, A1, c1, l1, A2, c2, A3, c3, pl, he, h0, h1, h2, h3, h4, h5, h6, h7⟩ := h.is
  exact ⟨A0, c0, l0, A1, c1, l1, A2, c2, A3, c3, pl, he, Kd.C_below h0 hb, h1, Kd.C_below h2 hb, h3, Kd.C_below h4 hb, h5, Kd.C_below h6 hb, h7⟩
theorem cright_calls {w : World} {cs : Array Value} {q : List S59} {ac : List S57} (h : Cfg w cs q ac) : Calls Try.prog 15 #[.agg cs] w fun e w' => e = .returned (.bool (rightQ q ac)) ∧ Below w.heap.size w w' := by
  obtain ⟨A0, c0, l0, A1, c1, l1, A2, c2, A3, c3, pl, rfl, h0, h1, h2, h3, h4, h5, h6, h7⟩ := h.is
  have hq : q.length ≤ 9223372036854775807 := h6.2.1
  obtain ⟨k, hk⟩ := Ev.the (right_ev l0 l1 ac q pl hq)
  exact quota_Right.calls k A0 c0 l0 A1 c1 l1 A2 c2 ac A3 c3 q pl (rightQ q ac) w h0 h1 h2 h3 h4 h5 h6 h7 hk
end Go.Proofs.Ytcnobkcddgcifaa.PT
