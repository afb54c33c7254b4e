/- Texts of this claim, laid together: PTx44, QuotaRC, QuotaRD, PTx36, PTx37, PTx38. -/
import Derived.Test.YtcnobkcddgcifaaPkT0
import Derived.Test.YtcnobkcddgcifaaPkT1
import Derived.Test.YtcnobkcddgcifaaPkT2
import Derived.Test.YtcnobkcddgcifaaPkT3
import Derived.Test.YtcnobkcddgcifaaPkT4
import Derived.Test.YtcnobkcddgcifaaPkT5
-- printed by wprint.py (this session's program over the kit's print.py)
namespace Go.Proofs.Ytcnobkcddgcifaa.PT
open Go.RowKit Go.Proofs.YtcnobkcddgcifaaW.PrintWords Go.Proofs.YtcnobkcddgcifaaW.PrintLast Go.Proofs.YtcnobkcddgcifaaW.PrintMore
attribute [local go_sem] max2_int min2_int max_two min_two max_three min_three max_four min_four   -- for this text's walks alone
set_option linter.unusedVariables false
set_option linter.unusedSimpArgs false

/-! ### musterref15_Cores: function 12 -/
def musterref15_Cores.l0 : Nat → List (S53) → ByteArray → Int → Int → List Int → List (S87) → List (S57) → List (S59) → Int → Option (Int × Int)
  | 0, _, _, _, _, _, _, _, _, _ => none
  | k + 1, x1, x2, x10, x11, x338000, x338001, x338002, x338003, x338004 => if x11 < (x1.length : Int) then (if 0 ≤ x11 then ((musterref14_Path.f k x338002 ((rd_T53 x1 x11).f3.f1)).bind fun bt342 => (if ((rd_T53 x1 x11).f4) = 2 then ((musterref14_In.f k bt342.1 x2).bind fun t347 => (if t347 = true then (musterref15_Cores.l0 k x1 x2 (wrap64 (x10 + (wrap64 (((rd_T53 x1 x11).f3.f4) * ((rd_T53 x1 x11).f3.f5))))) (wrap64 (x11 + 1)) x338000 x338001 x338002 x338003 x338004) else (musterref15_Cores.l0 k x1 x2 x10 (wrap64 (x11 + 1)) x338000 x338001 x338002 x338003 x338004))) else (musterref15_Cores.l0 k x1 x2 x10 (wrap64 (x11 + 1)) x338000 x338001 x338002 x338003 x338004))) else (none)) else (some (x10, 0))
def musterref15_Cores.f (k : Nat) (l0_0 : List Int) (l0_1 : List (S87)) (l0_2 : List (S57)) (l0_3 : List (S59)) (a0_4 : Int) (l1 : List (S53)) (a2 : ByteArray) : Option (Int × Int) := (musterref15_Right.f l0_0 l0_1 l0_2 l0_3 a0_4).bind fun t338 => (if t338 = true then ((musterref14_Find.f k l0_2 a2).bind fun bt339 => (if bt339.2 = true then (musterref15_Cores.l0 k l1 a2 0 0 l0_0 l0_1 l0_2 l0_3 a0_4) else (some (0, 141)))) else (some (0, 2)))
theorem musterref15_Cores.mono_l : ∀ k, (∀ y0 y1 y2 y3 y4 y5 y6 y7 y8, LeO (musterref15_Cores.l0 k y0 y1 y2 y3 y4 y5 y6 y7 y8) (musterref15_Cores.l0 (k + 1) y0 y1 y2 y3 y4 y5 y6 y7 y8))
  | 0 => fun _ _ _ _ _ _ _ _ _ r h => by simp [musterref15_Cores.l0] at h
  | k + 1 => by
    have ih0 := musterref15_Cores.mono_l k
    · intro y0 y1 y2 y3 y4 y5 y6 y7 y8
      unfold musterref15_Cores.l0
      repeat' first
      | (with_reducible exact ih0 _ _ _ _ _ _ _ _ _)
      | (with_reducible exact musterref14_Find.mono _ _ _)
      | (with_reducible exact musterref14_In.mono _ _ _)
      | (with_reducible exact musterref14_Path.mono _ _ _)
      | (with_reducible exact LeO.refl _)
      | (with_reducible exact LeO.none _)
      | (with_reducible refine LeO.ite ?_ ?_)
      | (with_reducible refine LeO.bind ?_ (fun _ => ?_))
      | exact ih0 _ _ _ _ _ _ _ _ _
      | exact musterref14_Find.mono _ _ _
      | exact musterref14_In.mono _ _ _
      | exact musterref14_Path.mono _ _ _
      | exact LeO.none _
      | refine LeO.ite ?_ ?_
      | refine LeO.bind ?_ (fun _ => ?_)
theorem musterref15_Cores.mono : ∀ a0 a1 a2 a3 a4 a5 a6 k, LeO (musterref15_Cores.f k a0 a1 a2 a3 a4 a5 a6) (musterref15_Cores.f (k + 1) a0 a1 a2 a3 a4 a5 a6) := by
  intro a0 a1 a2 a3 a4 a5 a6 k
  have ih0 := musterref15_Cores.mono_l k
  unfold musterref15_Cores.f
  repeat' first
      | (with_reducible exact ih0 _ _ _ _ _ _ _ _ _)
      | (with_reducible exact musterref14_Find.mono _ _ _)
      | (with_reducible exact musterref14_In.mono _ _ _)
      | (with_reducible exact musterref14_Path.mono _ _ _)
      | (with_reducible exact LeO.refl _)
      | (with_reducible exact LeO.none _)
      | (with_reducible refine LeO.ite ?_ ?_)
      | (with_reducible refine LeO.bind ?_ (fun _ => ?_))
      | exact ih0 _ _ _ _ _ _ _ _ _
      | exact musterref14_Find.mono _ _ _
      | exact musterref14_In.mono _ _ _
      | exact musterref14_Path.mono _ _ _
      | exact LeO.none _
      | refine LeO.ite ?_ ?_
      | refine LeO.bind ?_ (fun _ => ?_)
def musterref15_Cores.T10 : Bool × List (List Nat × List Nat) := (true, [([], []), ([0], [0]), ([], []), ([], []), ([2, 3], [2, 3]), ([4], [4]), ([5], [5]), ([6], [6]), ([1, 7], [1, 7]), ([8], [8]), ([9], [9]), ([9], [9]), ([10, 8, 0, 1, 2, 3, 4, 5, 6, 7, 8, 9, 10], [10]), ([11, 12, 0, 1, 2, 3, 4, 5, 6, 7, 8, 9, 10, 11, 12], [11])])
def musterref15_Cores.B10 : List Nat := [0, 1, 0, 0, 12, 28, 60, 124, 255, 511, 1023, 1023, 2047, 8191]
theorem musterref15_Cores.tab10 : rtab .any (opsOf Try.f12 10) = musterref15_Cores.T10 := by kernel_rfl
theorem musterref15_Cores.bits10 : waitsOk musterref15_Cores.T10.2 musterref15_Cores.B10 = true := by kernel_rfl
def musterref15_Cores.T12 : Bool × List (List Nat × List Nat) := (true, [([], []), ([], []), ([], []), ([1, 2], [1, 2]), ([3], [3]), ([4], [4]), ([5], [5]), ([], []), ([], []), ([7, 8], [7, 8]), ([9], [9]), ([10], [10]), ([11], [11]), ([6, 12], [6, 12]), ([0, 13], [0, 13]), ([14, 0, 1, 2, 3, 4, 5, 6, 7, 8, 9, 10, 11, 12, 13, 14], [0, 14])])
def musterref15_Cores.B12 : List Nat := [0, 0, 0, 6, 14, 30, 62, 0, 0, 384, 896, 1920, 3968, 8190, 16383, 32767]
theorem musterref15_Cores.tab12 : rtab .any (opsOf Try.f12 12) = musterref15_Cores.T12 := by kernel_rfl
theorem musterref15_Cores.bits12 : waitsOk musterref15_Cores.T12.2 musterref15_Cores.B12 = true := by kernel_rfl
set_option maxHeartbeats 8000000 in
set_option maxRecDepth 100000 in
theorem musterref15_Cores.calls (k : Nat) (A0_0 : Option Addr) (c0_0 : Nat) (l0_0 : List Int) (A0_1 : Option Addr) (c0_1 : Nat) (l0_1 : List (S87)) (A0_2 : Option Addr) (c0_2 : Nat) (l0_2 : List (S57)) (A0_3 : Option Addr) (c0_3 : Nat) (l0_3 : List (S59)) (a0_4 : Int) (A1 : Option Addr) (c1 : Nat) (l1 : List (S53)) (a2 : ByteArray) (r1 : Int) (r2 : Int) (w : World) (hr0_0 : Kd.C (Kd.int .i64) w A0_0 l0_0.length l0_0) (hc0_0 : l0_0.length ≤ c0_0) (hr0_1 : Kd.C k87 w A0_1 l0_1.length l0_1) (hc0_1 : l0_1.length ≤ c0_1) (hr0_2 : Kd.C k57 w A0_2 l0_2.length l0_2) (hc0_2 : l0_2.length ≤ c0_2) (hr0_3 : Kd.C k59 w A0_3 l0_3.length l0_3) (hc0_3 : l0_3.length ≤ c0_3) (hr1 : Kd.C k53 w A1 l1.length l1) (hc1 : l1.length ≤ c1) (h : musterref15_Cores.f k l0_0 l0_1 l0_2 l0_3 a0_4 l1 a2 = some (r1, r2)) :
    Calls Try.prog 12 #[.agg #[.slice A0_0 l0_0.length c0_0, .slice A0_1 l0_1.length c0_1, .slice A0_2 l0_2.length c0_2, .slice A0_3 l0_3.length c0_3, .int .u8 a0_4], .slice A1 l1.length c1, .string a2] w fun e w' => e = .returned (.tuple #[.int .i64 r1, .int .i64 r2]) ∧ Below w.heap.size w w' := by
  have hu28 := Try.underlying28
  have HR0_0 := Aside0.mk hr0_0
  have HC0_0 := Aside0.mk hc0_0
  clear hr0_0 hc0_0
  have HR0_1 := Aside0.mk hr0_1
  have HC0_1 := Aside0.mk hc0_1
  clear hr0_1 hc0_1
  have HR0_2 := Aside0.mk hr0_2
  have HC0_2 := Aside0.mk hc0_2
  clear hr0_2 hc0_2
  have HR0_3 := Aside0.mk hr0_3
  have HC0_3 := Aside0.mk hc0_3
  clear hr0_3 hc0_3
  have HR1 := Aside0.mk hr1
  have HC1 := Aside0.mk hc1
  clear hr1 hc1
  have HB := Aside0.mk (Below.refl w.heap.size w)
  have H : ((musterref15_Right.f l0_0 l0_1 l0_2 l0_3 a0_4).bind fun t338 => (if t338 = true then ((musterref14_Find.f k l0_2 a2).bind fun bt339 => (if bt339.2 = true then (musterref15_Cores.l0 k l1 a2 0 0 l0_0 l0_1 l0_2 l0_3 a0_4) else (some (0, 141)))) else (some (0, 2)))) = some (r1, r2) := h
  clear h
  replace H := Option.bind_eq_some_iff.mp H
  obtain ⟨t338, A40, H⟩ := H
  replace H : (if t338 = true then ((musterref14_Find.f k l0_2 a2).bind fun bt339 => (if bt339.2 = true then (musterref15_Cores.l0 k l1 a2 0 0 l0_0 l0_1 l0_2 l0_3 a0_4) else (some (0, 141)))) else (some (0, 2))) = some (r1, r2) := H
  have A4 := Aside0.mk A40
  clear A40
  by_cases c5 : t338 = true
  · subst c5
    have H1 : ((musterref14_Find.f k l0_2 a2).bind fun bt339 => (if bt339.2 = true then (musterref15_Cores.l0 k l1 a2 0 0 l0_0 l0_1 l0_2 l0_3 a0_4) else (some (0, 141)))) = some (r1, r2) := by rw [if_pos rfl] at H; exact H
    clear H
    have H := H1
    clear H1
    replace H := Option.bind_eq_some_iff.mp H
    obtain ⟨⟨t339, t340⟩, A60, H⟩ := H
    replace H : (if t340 = true then (musterref15_Cores.l0 k l1 a2 0 0 l0_0 l0_1 l0_2 l0_3 a0_4) else (some (0, 141))) = some (r1, r2) := H
    have A6 := Aside0.mk A60
    clear A60
    by_cases c7 : t340 = true
    · subst c7
      have H1 : (musterref15_Cores.l0 k l1 a2 0 0 l0_0 l0_1 l0_2 l0_3 a0_4) = some (r1, r2) := by rw [if_pos rfl] at H; exact H
      clear H
      have H := H1
      clear H1
      have H' := Aside0.mk H
      clear H
      go_enter Try.func12, Try.ntmps12
      go_wp2_with (first | ((with_reducible refine gate_dst (N := 3) rfl ?_); refine box_event ?hg (N := 3) ?hd (cs := #[.slice A0_0 l0_0.length c0_0, .slice A0_1 l0_1.length c0_1, .slice A0_2 l0_2.length c0_2, .slice A0_3 l0_3.length c0_3, .int .u8 a0_4]) (t := 28) ?hr ?_; (case hd => rfl); (case hg => rfl); (case hr => first | (go_simp; done) | (go_simp; rfl)); intro gb337 hg w8 hbox hb; have n0_ := Aside0.mk (below_step (by repeat (first | (with_reducible first | exact HB.out | apply below_alloc | apply pw_below_drewN | apply below_drew1) | exact HB.out)) hb); have n1_ := Aside0.mk (hbox); have n2_ := Aside0.mk ((by rw [hg]; exact (below_size (by repeat (first | (with_reducible first | exact HB.out | apply below_alloc | apply pw_below_drewN | apply below_drew1) | exact HB.out))) : w.heap.size ≤ gb337)); have n3_ := Aside0.mk ((by rw [hg]; exact (below_size (by repeat (first | (with_reducible first | exact HB.out | apply below_alloc | apply pw_below_drewN | apply below_drew1) | exact HB.out))) : w.heap.size ≤ gb337)); clear HB; have HB := n0_; have BK337 := n1_; have GW337 := n2_; have GE337 := n3_; clear n0_ n1_ n2_ n3_; clear hb hbox hg; have hcz9_0 : w8.cell? ⟨gb337, 0, none⟩ = some (.slice A0_0 l0_0.length c0_0) := (blk_cell BK337.out 0).trans rfl; have hcz9_1 : w8.cell? ⟨gb337, 1, none⟩ = some (.slice A0_1 l0_1.length c0_1) := (blk_cell BK337.out 1).trans rfl; have hcz9_2 : w8.cell? ⟨gb337, 2, none⟩ = some (.slice A0_2 l0_2.length c0_2) := (blk_cell BK337.out 2).trans rfl; have hcz9_3 : w8.cell? ⟨gb337, 3, none⟩ = some (.slice A0_3 l0_3.length c0_3) := (blk_cell BK337.out 3).trans rfl; have hcz9_4 : w8.cell? ⟨gb337, 4, none⟩ = some (.int .u8 a0_4) := (blk_cell BK337.out 4).trans rfl; have hfz9_0 := blk_frozen BK337.out 0; have hfz9_1 := blk_frozen BK337.out 1; have hfz9_2 := blk_frozen BK337.out 2; have hfz9_3 := blk_frozen BK337.out 3; have hfz9_4 := blk_frozen BK337.out 4) | ((with_reducible refine gate_callee (f := 16) rfl ?_); refine goesL_ (some 15) rfl rfl Try.func16 (by kernel_rfl) rfl #[.agg #[.slice A0_0 l0_0.length c0_0, .slice A0_1 l0_1.length c0_1, .slice A0_2 l0_2.length c0_2, .slice A0_3 l0_3.length c0_3, .int .u8 a0_4]] rfl (by (try simp only [List.map_toArray, List.map_cons, List.map_nil]); first | done | rfl | (simp only [List.length_drop, List.length_take]; rfl)) ?_; (with_reducible refine (musterref15_Right.calls _ _ l0_0 _ _ l0_1 _ _ l0_2 _ _ l0_3 a0_4 true _ ?side1 ?side2 ?side3 ?side4 ?side5 ?side6 ?side7 ?side8 A4.out).mono ?_); (case side1 => repeat (first | exact (Kd.C_below HR0_0.out HB.out) | (with_reducible refine Kd.C_alloc ?_ _) | (with_reducible refine Kd.C_drewN ?_ _) | (with_reducible refine Kd.C_drew ?_))); (case side2 => exact HC0_0.out); (case side3 => repeat (first | exact (Kd.C_below HR0_1.out HB.out) | (with_reducible refine Kd.C_alloc ?_ _) | (with_reducible refine Kd.C_drewN ?_ _) | (with_reducible refine Kd.C_drew ?_))); (case side4 => exact HC0_1.out); (case side5 => repeat (first | exact (Kd.C_below HR0_2.out HB.out) | (with_reducible refine Kd.C_alloc ?_ _) | (with_reducible refine Kd.C_drewN ?_ _) | (with_reducible refine Kd.C_drew ?_))); (case side6 => exact HC0_2.out); (case side7 => repeat (first | exact (Kd.C_below HR0_3.out HB.out) | (with_reducible refine Kd.C_alloc ?_ _) | (with_reducible refine Kd.C_drewN ?_ _) | (with_reducible refine Kd.C_drew ?_))); (case side8 => exact HC0_3.out); rintro e w10 ⟨rfl, hb⟩; refine ⟨_, rfl, ?_⟩; have n0_ := Aside0.mk (blk_below (g := gb337) (o := .cells #[.slice A0_0 l0_0.length c0_0, .slice A0_1 l0_1.length c0_1, .slice A0_2 l0_2.length c0_2, .slice A0_3 l0_3.length c0_3, .int .u8 a0_4] 28 (0, 0)) (by (with_reducible repeat (first | refine blk_drewN ?_ _ | refine blk_drew ?_ | refine blk_alloc ?_ _)); exact BK337.out) hb); have n1_ := Aside0.mk (below_step (by repeat (first | (with_reducible first | exact HB.out | apply below_alloc | apply pw_below_drewN | apply below_drew1 | refine below_set ?_ GE337.out) | exact HB.out)) hb); clear BK337; clear HB; have BK337 := n0_; have HB := n1_; clear n0_ n1_; (try clear hb); (try clear hb2); (try clear hk); (try clear hi); have hcz11_0 : w10.cell? ⟨gb337, 0, none⟩ = some (.slice A0_0 l0_0.length c0_0) := (blk_cell BK337.out 0).trans rfl; have hcz11_1 : w10.cell? ⟨gb337, 1, none⟩ = some (.slice A0_1 l0_1.length c0_1) := (blk_cell BK337.out 1).trans rfl; have hcz11_2 : w10.cell? ⟨gb337, 2, none⟩ = some (.slice A0_2 l0_2.length c0_2) := (blk_cell BK337.out 2).trans rfl; have hcz11_3 : w10.cell? ⟨gb337, 3, none⟩ = some (.slice A0_3 l0_3.length c0_3) := (blk_cell BK337.out 3).trans rfl; have hcz11_4 : w10.cell? ⟨gb337, 4, none⟩ = some (.int .u8 a0_4) := (blk_cell BK337.out 4).trans rfl; have hfz11_0 := blk_frozen BK337.out 0; have hfz11_1 := blk_frozen BK337.out 1; have hfz11_2 := blk_frozen BK337.out 2; have hfz11_3 := blk_frozen BK337.out 3; have hfz11_4 := blk_frozen BK337.out 4) | ((with_reducible refine gate_callee (f := 30) rfl ?_); refine goesL_ (some 21) rfl rfl Try.func30 (by kernel_rfl) rfl #[.slice A0_2 l0_2.length c0_2, .string a2] rfl (by (try simp only [List.map_toArray, List.map_cons, List.map_nil]); first | done | rfl | (simp only [List.length_drop, List.length_take]; rfl)) ?_; (with_reducible refine (musterref14_Find.calls k _ _ l0_2 a2 t339 true _ ?side1 ?side2 A6.out).mono ?_); (case side1 => repeat (first | exact (Kd.C_below HR0_2.out HB.out) | (with_reducible refine Kd.C_alloc ?_ _) | (with_reducible refine Kd.C_drewN ?_ _) | (with_reducible refine Kd.C_drew ?_))); (case side2 => exact HC0_2.out); rintro e w' ⟨rfl, ⟨nd, rfl⟩⟩; refine ⟨_, rfl, ?_⟩))
      go_loopg [10, 11] k (fun kq v10 v11 w' => ∃ (x10_1 : Int) (x11_1 : Int), v10 = .int .i64 x10_1 ∧ v11 = .int .i64 x11_1 ∧ Aside0 (musterref15_Cores.l0 kq l1 a2 x10_1 x11_1 l0_0 l0_1 l0_2 l0_3 a0_4 = some (r1, r2)) ∧ Aside0 (kq ≤ k) ∧ Aside0 (w'.heap[gb337]? = some (.cells #[(.slice A0_0 l0_0.length c0_0), (.slice A0_1 l0_1.length c0_1), (.slice A0_2 l0_2.length c0_2), (.slice A0_3 l0_3.length c0_3), .int .u8 a0_4] 28 (0, 0))) ∧ Aside0 (Below w.heap.size w w'))
      case atStart => exact ⟨(0), (0), (by first | rfl | (simp; done) | (simp [*]; done)), (by first | rfl | (simp; done) | (simp [*]; done)), H', ⟨Nat.le_refl _⟩, ⟨by (with_reducible repeat (first | refine blk_drewN ?_ _ | refine blk_drew ?_ | refine blk_alloc ?_ _)); exact BK337.out⟩, ⟨by repeat (first | (with_reducible first | exact HB.out | apply below_alloc | apply pw_below_drewN | apply below_drew1 | refine below_set ?_ GE337.out) | exact HB.out)⟩⟩
      case round =>
        clear H'
        try clear c1
        try clear p2
        try clear c3
        try clear c5
        try clear c7
        try clear hcz11_0
        try clear hcz11_1
        try clear hcz11_2
        try clear hcz11_3
        try clear hcz11_4
        try clear hcz9_0
        try clear hcz9_1
        try clear hcz9_2
        try clear hcz9_3
        try clear hcz9_4
        try clear hfz11_0
        try clear hfz11_1
        try clear hfz11_2
        try clear hfz11_3
        try clear hfz11_4
        try clear hfz9_0
        try clear hfz9_1
        try clear hfz9_2
        try clear hfz9_3
        try clear hfz9_4
        obtain ⟨x10_1, x11_1, rfl, rfl, HA, HK1, BK337, HB⟩ := hrel
        cases gk with
        | zero => exact absurd HA.out (by simp [musterref15_Cores.l0])
        | succ k1 =>
          have H := HA.out
          clear HA
          simp only [musterref15_Cores.l0] at H
          by_cases c12 : x11_1 < (l1.length : Int)
          · rw [if_pos c12] at H
            have c12b0 : decide (x11_1 < (l1.length : Int)) = true := decide_eq_true c12
            clear c12
            by_cases c13 : 0 ≤ x11_1
            · rw [if_pos c13] at H
              have c13b0 : decide (0 ≤ x11_1) = true := decide_eq_true c13
              clear c13
              replace H := Option.bind_eq_some_iff.mp H
              obtain ⟨⟨t342, t343⟩, A140, H⟩ := H
              replace H : (if ((rd_T53 l1 x11_1).f4) = 2 then ((musterref14_In.f k1 t342 a2).bind fun t347 => (if t347 = true then (musterref15_Cores.l0 k1 l1 a2 (wrap64 (x10_1 + (wrap64 (((rd_T53 l1 x11_1).f3.f4) * ((rd_T53 l1 x11_1).f3.f5))))) (wrap64 (x11_1 + 1)) l0_0 l0_1 l0_2 l0_3 a0_4) else (musterref15_Cores.l0 k1 l1 a2 x10_1 (wrap64 (x11_1 + 1)) l0_0 l0_1 l0_2 l0_3 a0_4))) else (musterref15_Cores.l0 k1 l1 a2 x10_1 (wrap64 (x11_1 + 1)) l0_0 l0_1 l0_2 l0_3 a0_4)) = some (r1, r2) := H
              have A14 := Aside0.mk A140
              clear A140
              by_cases c15 : ((rd_T53 l1 x11_1).f4) = 2
              · rw [if_pos c15] at H
                have c15b0 : (((rd_T53 l1 x11_1).f4) == 2) = true := beq_iff_eq.mpr c15
                have c15b1 : (((rd_T53 l1 x11_1).f4) != 2) = false := bne_eq_false_iff_eq.mpr c15
                clear c15
                replace H := Option.bind_eq_some_iff.mp H
                obtain ⟨t347, A160, H⟩ := H
                replace H : (if t347 = true then (musterref15_Cores.l0 k1 l1 a2 (wrap64 (x10_1 + (wrap64 (((rd_T53 l1 x11_1).f3.f4) * ((rd_T53 l1 x11_1).f3.f5))))) (wrap64 (x11_1 + 1)) l0_0 l0_1 l0_2 l0_3 a0_4) else (musterref15_Cores.l0 k1 l1 a2 x10_1 (wrap64 (x11_1 + 1)) l0_0 l0_1 l0_2 l0_3 a0_4)) = some (r1, r2) := H
                have A16 := Aside0.mk A160
                clear A160
                by_cases c17 : t347 = true
                · subst c17
                  have H1 : (musterref15_Cores.l0 k1 l1 a2 (wrap64 (x10_1 + (wrap64 (((rd_T53 l1 x11_1).f3.f4) * ((rd_T53 l1 x11_1).f3.f5))))) (wrap64 (x11_1 + 1)) l0_0 l0_1 l0_2 l0_3 a0_4) = some (r1, r2) := by rw [if_pos rfl] at H; exact H
                  clear H
                  have H := H1
                  clear H1
                  have H' := Aside0.mk H
                  clear H
                  try go_wp2
                  have n0_ := Aside0.mk (blk_drew BK337.out)
                  have n1_ := Aside0.mk (below_drew1 HB.out)
                  clear BK337
                  clear HB
                  have BK337 := n0_
                  have HB := n1_
                  clear n0_ n1_
                  have p341 : 0 ≤ (x11_1 : Int) := of_decide_eq_true (by first | (with_reducible assumption) | assumption)
                  have q341 : x11_1 < (l1.length : Int) := of_decide_eq_true (by first | (with_reducible assumption) | assumption)
                  obtain ⟨ad341, A341_10, c341_10, e341, hx341_0, hx341_1, hx341_2, hx341_3, hx341_4, hx341_5, hx341_6, hx341_7, hx341_8, hx341_9, hx341_10, hx341_11, hx341_12, hx341_13, hx341_14, hx341_15, hx341_16, hl341_10, hi341_10⟩ := at_T53 HR1.out x11_1 p341 q341
                  have hw341_16 := hx341_16
                  have hw341_15 := hx341_15
                  have hw341_14 := hx341_14
                  have hw341_13 := hx341_13
                  have hw341_12 := hx341_12
                  have hw341_11 := hx341_11
                  have hw341_10 := hx341_10
                  have hw341_9 := hx341_9
                  have hw341_8 := hx341_8
                  have hw341_7 := hx341_7
                  have hw341_6 := hx341_6
                  have hw341_5 := hx341_5
                  have hw341_4 := hx341_4
                  have hw341_3 := hx341_3
                  have hw341_2 := hx341_2
                  have hw341_1 := hx341_1
                  have hw341_0 := hx341_0
                  cases e341
                  replace hx341_0 := (HB.out.cell (World.block_lt_of_cell? w _ hx341_0)).trans hx341_0
                  replace hx341_1 := (HB.out.cell (World.block_lt_of_cell? w _ hx341_1)).trans hx341_1
                  replace hx341_2 := (HB.out.cell (World.block_lt_of_cell? w _ hx341_2)).trans hx341_2
                  replace hx341_3 := (HB.out.cell (World.block_lt_of_cell? w _ hx341_3)).trans hx341_3
                  replace hx341_4 := (HB.out.cell (World.block_lt_of_cell? w _ hx341_4)).trans hx341_4
                  replace hx341_5 := (HB.out.cell (World.block_lt_of_cell? w _ hx341_5)).trans hx341_5
                  replace hx341_6 := (HB.out.cell (World.block_lt_of_cell? w _ hx341_6)).trans hx341_6
                  replace hx341_7 := (HB.out.cell (World.block_lt_of_cell? w _ hx341_7)).trans hx341_7
                  replace hx341_8 := (HB.out.cell (World.block_lt_of_cell? w _ hx341_8)).trans hx341_8
                  replace hx341_9 := (HB.out.cell (World.block_lt_of_cell? w _ hx341_9)).trans hx341_9
                  replace hx341_10 := (HB.out.cell (World.block_lt_of_cell? w _ hx341_10)).trans hx341_10
                  replace hx341_11 := (HB.out.cell (World.block_lt_of_cell? w _ hx341_11)).trans hx341_11
                  replace hx341_12 := (HB.out.cell (World.block_lt_of_cell? w _ hx341_12)).trans hx341_12
                  replace hx341_13 := (HB.out.cell (World.block_lt_of_cell? w _ hx341_13)).trans hx341_13
                  replace hx341_14 := (HB.out.cell (World.block_lt_of_cell? w _ hx341_14)).trans hx341_14
                  replace hx341_15 := (HB.out.cell (World.block_lt_of_cell? w _ hx341_15)).trans hx341_15
                  replace hx341_16 := (HB.out.cell (World.block_lt_of_cell? w _ hx341_16)).trans hx341_16
                  have HR341_10 := Aside0.mk hi341_10
                  have HC341_10 := Aside0.mk hl341_10
                  clear hi341_10 hl341_10
                  replace p341 := eq_true p341
                  replace q341 := eq_true q341
                  refine start_ (n := 14) (S := fun w' => w'.cell? ⟨gb337, 0, none⟩ = some (.slice A0_0 l0_0.length c0_0) ∧ w'.cell? ⟨gb337, 1, none⟩ = some (.slice A0_1 l0_1.length c0_1) ∧ w'.cell? ⟨gb337, 2, none⟩ = some (.slice A0_2 l0_2.length c0_2) ∧ w'.cell? ⟨gb337, 3, none⟩ = some (.slice A0_3 l0_3.length c0_3) ∧ w'.cell? ⟨gb337, 4, none⟩ = some (.int .u8 a0_4) ∧ w'.cell? (ad341.add ((x11_1).toNat * 17)) = some (.int .i64 ((rd_T53 l1 x11_1).f0)) ∧ w'.cell? ⟨(ad341.add ((x11_1).toNat * 17)).block, (ad341.add ((x11_1).toNat * 17)).off + 1, none⟩ = some (.int .i64 ((rd_T53 l1 x11_1).f1)) ∧ w'.cell? ⟨(ad341.add ((x11_1).toNat * 17)).block, (ad341.add ((x11_1).toNat * 17)).off + 2, none⟩ = some (.int .i64 ((rd_T53 l1 x11_1).f2)) ∧ w'.cell? ⟨(ad341.add ((x11_1).toNat * 17)).block, (ad341.add ((x11_1).toNat * 17)).off + 3, none⟩ = some (.string ((rd_T53 l1 x11_1).f3.f0)) ∧ w'.cell? ⟨(ad341.add ((x11_1).toNat * 17)).block, (ad341.add ((x11_1).toNat * 17)).off + 4, none⟩ = some (.string ((rd_T53 l1 x11_1).f3.f1)) ∧ w'.cell? ⟨(ad341.add ((x11_1).toNat * 17)).block, (ad341.add ((x11_1).toNat * 17)).off + 5, none⟩ = some (.string ((rd_T53 l1 x11_1).f3.f2)) ∧ w'.cell? ⟨(ad341.add ((x11_1).toNat * 17)).block, (ad341.add ((x11_1).toNat * 17)).off + 6, none⟩ = some (.string ((rd_T53 l1 x11_1).f3.f3)) ∧ w'.cell? ⟨(ad341.add ((x11_1).toNat * 17)).block, (ad341.add ((x11_1).toNat * 17)).off + 7, none⟩ = some (.int .i64 ((rd_T53 l1 x11_1).f3.f4)) ∧ w'.cell? ⟨(ad341.add ((x11_1).toNat * 17)).block, (ad341.add ((x11_1).toNat * 17)).off + 8, none⟩ = some (.int .i64 ((rd_T53 l1 x11_1).f3.f5)) ∧ w'.cell? ⟨(ad341.add ((x11_1).toNat * 17)).block, (ad341.add ((x11_1).toNat * 17)).off + 9, none⟩ = some (.int .i64 ((rd_T53 l1 x11_1).f3.f6)) ∧ w'.cell? ⟨(ad341.add ((x11_1).toNat * 17)).block, (ad341.add ((x11_1).toNat * 17)).off + 10, none⟩ = some (.slice A341_10 ((rd_T53 l1 x11_1).f3.f7).length c341_10) ∧ w'.cell? ⟨(ad341.add ((x11_1).toNat * 17)).block, (ad341.add ((x11_1).toNat * 17)).off + 11, none⟩ = some (.int .u8 ((rd_T53 l1 x11_1).f4)) ∧ w'.cell? ⟨(ad341.add ((x11_1).toNat * 17)).block, (ad341.add ((x11_1).toNat * 17)).off + 12, none⟩ = some (.int .i64 ((rd_T53 l1 x11_1).f5)) ∧ w'.cell? ⟨(ad341.add ((x11_1).toNat * 17)).block, (ad341.add ((x11_1).toNat * 17)).off + 13, none⟩ = some (.int .i64 ((rd_T53 l1 x11_1).f6)) ∧ w'.cell? ⟨(ad341.add ((x11_1).toNat * 17)).block, (ad341.add ((x11_1).toNat * 17)).off + 14, none⟩ = some (.int .i64 ((rd_T53 l1 x11_1).f7)) ∧ w'.cell? ⟨(ad341.add ((x11_1).toNat * 17)).block, (ad341.add ((x11_1).toNat * 17)).off + 15, none⟩ = some (.int .u32 ((rd_T53 l1 x11_1).f8)) ∧ w'.cell? ⟨(ad341.add ((x11_1).toNat * 17)).block, (ad341.add ((x11_1).toNat * 17)).off + 16, none⟩ = some (.int .i64 ((rd_T53 l1 x11_1).f9))) (ds := []) (lk 14 0) (by kernel_rfl) rfl rfl ⟨(blk_cell BK337.out 0).trans rfl, (blk_cell BK337.out 1).trans rfl, (blk_cell BK337.out 2).trans rfl, (blk_cell BK337.out 3).trans rfl, (blk_cell BK337.out 4).trans rfl, ((HB.out.cell (World.block_lt_of_cell? w _ hw341_0)).trans hw341_0), ((HB.out.cell (World.block_lt_of_cell? w _ hw341_1)).trans hw341_1), ((HB.out.cell (World.block_lt_of_cell? w _ hw341_2)).trans hw341_2), ((HB.out.cell (World.block_lt_of_cell? w _ hw341_3)).trans hw341_3), ((HB.out.cell (World.block_lt_of_cell? w _ hw341_4)).trans hw341_4), ((HB.out.cell (World.block_lt_of_cell? w _ hw341_5)).trans hw341_5), ((HB.out.cell (World.block_lt_of_cell? w _ hw341_6)).trans hw341_6), ((HB.out.cell (World.block_lt_of_cell? w _ hw341_7)).trans hw341_7), ((HB.out.cell (World.block_lt_of_cell? w _ hw341_8)).trans hw341_8), ((HB.out.cell (World.block_lt_of_cell? w _ hw341_9)).trans hw341_9), ((HB.out.cell (World.block_lt_of_cell? w _ hw341_10)).trans hw341_10), ((HB.out.cell (World.block_lt_of_cell? w _ hw341_11)).trans hw341_11), ((HB.out.cell (World.block_lt_of_cell? w _ hw341_12)).trans hw341_12), ((HB.out.cell (World.block_lt_of_cell? w _ hw341_13)).trans hw341_13), ((HB.out.cell (World.block_lt_of_cell? w _ hw341_14)).trans hw341_14), ((HB.out.cell (World.block_lt_of_cell? w _ hw341_15)).trans hw341_15), ((HB.out.cell (World.block_lt_of_cell? w _ hw341_16)).trans hw341_16)⟩ (fun hHeld => ?_); refine with_tabW musterref15_Cores.tab10 musterref15_Cores.bits10 (fun HT_ HW_ => ?_)
                  generalize wr.drew = w18 at BK337 HB HR341_10 hx341_0 hx341_1 hx341_10 hx341_11 hx341_12 hx341_13 hx341_14 hx341_15 hx341_16 hx341_2 hx341_3 hx341_4 hx341_5 hx341_6 hx341_7 hx341_8 hx341_9 hHeld ⊢
                  refine pu (i := 0) (N := some 33) (lk 14 1) ?_
                  refine pu (i := 2) (N := some 35) (lk 14 5) ?_
                  refine pu (i := 3) (N := some 36) (lk 14 13) ?_
                  refine pu (i := 4) (N := some 37) (lk 14 29) ?_
                  refine pu (i := 5) (N := some 38) (lk 14 61) ?_
                  refine pu (i := 6) (N := some 39) (lk 14 125) ?_
                  refine take_ (i := 1) (N := some 34) (v := ?_) (a' := ?_) (lk 14 127) rfl rfl (take_ofW HT_.out HW_.out (by kernel_rfl)) (fun _ _ _ h => h) (Or.inl ⟨by rfl, ?_⟩) hHeld ?_ ?_
                  rotate_left
                  · rintro w' ⟨s0, s1, s2, s3, s4, s5, s6, s7, s8, s9, s10, s11, s12, s13, s14, s15, s16, s17, s18, s19, s20, s21⟩
                    go_simp
                    with_reducible rfl
                  rotate_left
                  · simp only [Act.put, List.setIfInBounds_toArray, List.set_cons_zero, List.set_cons_succ, i64_w, i32_w]
                    rfl
                  refine take_ (i := 7) (N := some 40) (v := ?_) (a' := ?_) (lk 14 255) rfl rfl (take_ofW HT_.out HW_.out (by kernel_rfl)) (fun _ _ _ h => h) (Or.inl ⟨by rfl, ?_⟩) hHeld ?_ ?_
                  rotate_left
                  · rintro w' ⟨s0, s1, s2, s3, s4, s5, s6, s7, s8, s9, s10, s11, s12, s13, s14, s15, s16, s17, s18, s19, s20, s21⟩
                    go_simp
                    with_reducible rfl
                  rotate_left
                  · simp only [Act.put, List.setIfInBounds_toArray, List.set_cons_zero, List.set_cons_succ, i64_w, i32_w]
                    rfl
                  refine on1 (i := 8) (N := some 41) (lk 14 511) (fun K hK => ?_)
                  refine goes_ Try.func31 (by kernel_rfl) rfl #[.slice A0_2 l0_2.length c0_2, .string ((rd_T53 l1 x11_1).f3.f1)] (by rfl) rfl rfl (by (try simp only [List.map_toArray, List.map_cons, List.map_nil]); first | done | rfl | (simp only [List.length_drop, List.length_take]; rfl)) ?_
                  with_reducible refine (musterref14_Path.calls k1 _ _ l0_2 ((rd_T53 l1 x11_1).f3.f1) t342 t343 _ ?side1 ?side2 A14.out).mono ?_
                  (case side1 => repeat (first | exact (Kd.C_below HR0_2.out HB.out) | (with_reducible refine Kd.C_alloc ?_ _) | (with_reducible refine Kd.C_drewN ?_ _) | (with_reducible refine Kd.C_drew ?_)))
                  (case side2 => exact HC0_2.out)
                  rintro e w19 ⟨v344, rfl, ho0, hb⟩
                  refine ⟨_, rfl, ?_⟩
                  have n0_ := Aside0.mk (Kd.R_lower ho0 (below_size (by repeat (first | (with_reducible first | exact HB.out | apply below_alloc | apply pw_below_drewN | apply below_drew1 | refine below_set ?_ GE337.out) | exact HB.out))))
                  have n1_ := Aside0.mk (blk_below (g := gb337) (o := .cells #[.slice A0_0 l0_0.length c0_0, .slice A0_1 l0_1.length c0_1, .slice A0_2 l0_2.length c0_2, .slice A0_3 l0_3.length c0_3, .int .u8 a0_4] 28 (0, 0)) (by (with_reducible repeat (first | refine blk_drewN ?_ _ | refine blk_drew ?_ | refine blk_alloc ?_ _)); exact BK337.out) hb)
                  have n2_ := Aside0.mk (below_step (by repeat (first | (with_reducible first | exact HB.out | apply below_alloc | apply pw_below_drewN | apply below_drew1 | refine below_set ?_ GE337.out) | exact HB.out)) hb)
                  clear BK337
                  clear HB
                  have HO345 := n0_
                  have BK337 := n1_
                  have HB := n2_
                  clear n0_ n1_ n2_
                  (try clear hb)
                  (try clear hb2)
                  (try clear hk)
                  (try clear hi)
                  (try clear ho0)
                  refine hK.out _ _ ⟨(blk_cell BK337.out 0).trans rfl, (blk_cell BK337.out 1).trans rfl, (blk_cell BK337.out 2).trans rfl, (blk_cell BK337.out 3).trans rfl, (blk_cell BK337.out 4).trans rfl, ((HB.out.cell (World.block_lt_of_cell? w _ hw341_0)).trans hw341_0), ((HB.out.cell (World.block_lt_of_cell? w _ hw341_1)).trans hw341_1), ((HB.out.cell (World.block_lt_of_cell? w _ hw341_2)).trans hw341_2), ((HB.out.cell (World.block_lt_of_cell? w _ hw341_3)).trans hw341_3), ((HB.out.cell (World.block_lt_of_cell? w _ hw341_4)).trans hw341_4), ((HB.out.cell (World.block_lt_of_cell? w _ hw341_5)).trans hw341_5), ((HB.out.cell (World.block_lt_of_cell? w _ hw341_6)).trans hw341_6), ((HB.out.cell (World.block_lt_of_cell? w _ hw341_7)).trans hw341_7), ((HB.out.cell (World.block_lt_of_cell? w _ hw341_8)).trans hw341_8), ((HB.out.cell (World.block_lt_of_cell? w _ hw341_9)).trans hw341_9), ((HB.out.cell (World.block_lt_of_cell? w _ hw341_10)).trans hw341_10), ((HB.out.cell (World.block_lt_of_cell? w _ hw341_11)).trans hw341_11), ((HB.out.cell (World.block_lt_of_cell? w _ hw341_12)).trans hw341_12), ((HB.out.cell (World.block_lt_of_cell? w _ hw341_13)).trans hw341_13), ((HB.out.cell (World.block_lt_of_cell? w _ hw341_14)).trans hw341_14), ((HB.out.cell (World.block_lt_of_cell? w _ hw341_15)).trans hw341_15), ((HB.out.cell (World.block_lt_of_cell? w _ hw341_16)).trans hw341_16)⟩ (fun hHeld => ?_)
                  clear hK K
                  refine nm (some 41) ?_
                  refine pu (i := 9) (N := some 32) (lk 14 1023) ?_
                  refine pu (i := 10) (N := some 42) (lk 14 2047) ?_
                  refine pu (i := 11) (N := some 43) (lk 14 4095) ?_
                  refine pu (i := 12) (N := some 12) (lk 14 8191) ?_
                  refine pu (i := 13) (N := some 13) (lk 14 16383) ?_
                  refine done_ (done_of HT_.out (by kernel_rfl)) ?_
                  have p346 : 0 ≤ (x11_1 : Int) := of_decide_eq_true (by first | (with_reducible assumption) | assumption)
                  have q346 : x11_1 < (l1.length : Int) := of_decide_eq_true (by first | (with_reducible assumption) | assumption)
                  obtain ⟨ad346, A346_10, c346_10, e346, hx346_0, hx346_1, hx346_2, hx346_3, hx346_4, hx346_5, hx346_6, hx346_7, hx346_8, hx346_9, hx346_10, hx346_11, hx346_12, hx346_13, hx346_14, hx346_15, hx346_16, hl346_10, hi346_10⟩ := at_T53 HR1.out x11_1 p346 q346
                  obtain rfl : ad341 = ad346 := (by injection e346)
                  replace hx346_0 := (HB.out.cell (World.block_lt_of_cell? w _ hx346_0)).trans hx346_0
                  replace hx346_1 := (HB.out.cell (World.block_lt_of_cell? w _ hx346_1)).trans hx346_1
                  replace hx346_2 := (HB.out.cell (World.block_lt_of_cell? w _ hx346_2)).trans hx346_2
                  replace hx346_3 := (HB.out.cell (World.block_lt_of_cell? w _ hx346_3)).trans hx346_3
                  replace hx346_4 := (HB.out.cell (World.block_lt_of_cell? w _ hx346_4)).trans hx346_4
                  replace hx346_5 := (HB.out.cell (World.block_lt_of_cell? w _ hx346_5)).trans hx346_5
                  replace hx346_6 := (HB.out.cell (World.block_lt_of_cell? w _ hx346_6)).trans hx346_6
                  replace hx346_7 := (HB.out.cell (World.block_lt_of_cell? w _ hx346_7)).trans hx346_7
                  replace hx346_8 := (HB.out.cell (World.block_lt_of_cell? w _ hx346_8)).trans hx346_8
                  replace hx346_9 := (HB.out.cell (World.block_lt_of_cell? w _ hx346_9)).trans hx346_9
                  replace hx346_10 := (HB.out.cell (World.block_lt_of_cell? w _ hx346_10)).trans hx346_10
                  replace hx346_11 := (HB.out.cell (World.block_lt_of_cell? w _ hx346_11)).trans hx346_11
                  replace hx346_12 := (HB.out.cell (World.block_lt_of_cell? w _ hx346_12)).trans hx346_12
                  replace hx346_13 := (HB.out.cell (World.block_lt_of_cell? w _ hx346_13)).trans hx346_13
                  replace hx346_14 := (HB.out.cell (World.block_lt_of_cell? w _ hx346_14)).trans hx346_14
                  replace hx346_15 := (HB.out.cell (World.block_lt_of_cell? w _ hx346_15)).trans hx346_15
                  replace hx346_16 := (HB.out.cell (World.block_lt_of_cell? w _ hx346_16)).trans hx346_16
                  have HR346_10 := Aside0.mk hi346_10
                  have HC346_10 := Aside0.mk hl346_10
                  clear hi346_10 hl346_10
                  replace p346 := eq_true p346
                  replace q346 := eq_true q346
                  obtain ⟨Ao20, co20, eo20⟩ := Kd.R_slice HO345.out
                  subst eo20
                  try go_wp2_with (first | (go_at_call 32; (with_reducible refine (musterref14_In.calls k1 _ _ t342 a2 true _ ?side1 ?side2 A16.out).mono ?_); (case side1 => repeat (first | exact (Kd.R_reads' HO345.out).2.2 | (with_reducible refine Kd.C_alloc ?_ _) | (with_reducible refine Kd.C_drewN ?_ _) | (with_reducible refine Kd.C_drew ?_))); (case side2 => exact (Kd.R_reads' HO345.out).2.1); rintro e w' ⟨rfl, ⟨nd, rfl⟩⟩))
                  (try (rw [drewN_self w19]; generalize hq_ : World.drewN w19 _ = w19; have n0_ : Aside0 (Kd.R Kd.string 9 w19 w.heap.size (fun _ => True) (.slice Ao20 t342.length co20) t342) := ⟨by rw [← hq_]; exact (by (with_reducible repeat (first | apply Kd.R_alloc | apply Kd.R_drewN | apply Kd.R_drew)); exact HO345.out)⟩; have n1_ : Aside0 (w19.heap[gb337]? = some (.cells #[.slice A0_0 l0_0.length c0_0, .slice A0_1 l0_1.length c0_1, .slice A0_2 l0_2.length c0_2, .slice A0_3 l0_3.length c0_3, .int .u8 a0_4] 28 (0, 0))) := ⟨by rw [← hq_]; exact (by (with_reducible repeat (first | refine blk_drewN ?_ _ | refine blk_drew ?_ | refine blk_alloc ?_ _)); exact BK337.out)⟩; have n2_ : Aside0 (Below w.heap.size w w19) := ⟨by rw [← hq_]; exact (by repeat (first | (with_reducible first | exact HB.out | apply below_alloc | apply pw_below_drewN | apply below_drew1 | refine below_set ?_ GE337.out) | exact HB.out))⟩; clear HO345 BK337 HB hq_; have HO345 := n0_; have BK337 := n1_; have HB := n2_; clear n0_ n1_ n2_))
                  have n0_ := Aside0.mk (Kd.R_drew HO345.out)
                  have n1_ := Aside0.mk (blk_drew BK337.out)
                  have n2_ := Aside0.mk (below_drew1 HB.out)
                  clear HO345
                  clear BK337
                  clear HB
                  have HO345 := n0_
                  have BK337 := n1_
                  have HB := n2_
                  clear n0_ n1_ n2_
                  have p348 : 0 ≤ (x11_1 : Int) := of_decide_eq_true (by first | (with_reducible assumption) | assumption)
                  have q348 : x11_1 < (l1.length : Int) := of_decide_eq_true (by first | (with_reducible assumption) | assumption)
                  obtain ⟨ad348, A348_10, c348_10, e348, hx348_0, hx348_1, hx348_2, hx348_3, hx348_4, hx348_5, hx348_6, hx348_7, hx348_8, hx348_9, hx348_10, hx348_11, hx348_12, hx348_13, hx348_14, hx348_15, hx348_16, hl348_10, hi348_10⟩ := at_T53 HR1.out x11_1 p348 q348
                  have hw348_16 := hx348_16
                  have hw348_15 := hx348_15
                  have hw348_14 := hx348_14
                  have hw348_13 := hx348_13
                  have hw348_12 := hx348_12
                  have hw348_11 := hx348_11
                  have hw348_10 := hx348_10
                  have hw348_9 := hx348_9
                  have hw348_8 := hx348_8
                  have hw348_7 := hx348_7
                  have hw348_6 := hx348_6
                  have hw348_5 := hx348_5
                  have hw348_4 := hx348_4
                  have hw348_3 := hx348_3
                  have hw348_2 := hx348_2
                  have hw348_1 := hx348_1
                  have hw348_0 := hx348_0
                  obtain rfl : ad341 = ad348 := (by injection e348)
                  replace hx348_0 := (HB.out.cell (World.block_lt_of_cell? w _ hx348_0)).trans hx348_0
                  replace hx348_1 := (HB.out.cell (World.block_lt_of_cell? w _ hx348_1)).trans hx348_1
                  replace hx348_2 := (HB.out.cell (World.block_lt_of_cell? w _ hx348_2)).trans hx348_2
                  replace hx348_3 := (HB.out.cell (World.block_lt_of_cell? w _ hx348_3)).trans hx348_3
                  replace hx348_4 := (HB.out.cell (World.block_lt_of_cell? w _ hx348_4)).trans hx348_4
                  replace hx348_5 := (HB.out.cell (World.block_lt_of_cell? w _ hx348_5)).trans hx348_5
                  replace hx348_6 := (HB.out.cell (World.block_lt_of_cell? w _ hx348_6)).trans hx348_6
                  replace hx348_7 := (HB.out.cell (World.block_lt_of_cell? w _ hx348_7)).trans hx348_7
                  replace hx348_8 := (HB.out.cell (World.block_lt_of_cell? w _ hx348_8)).trans hx348_8
                  replace hx348_9 := (HB.out.cell (World.block_lt_of_cell? w _ hx348_9)).trans hx348_9
                  replace hx348_10 := (HB.out.cell (World.block_lt_of_cell? w _ hx348_10)).trans hx348_10
                  replace hx348_11 := (HB.out.cell (World.block_lt_of_cell? w _ hx348_11)).trans hx348_11
                  replace hx348_12 := (HB.out.cell (World.block_lt_of_cell? w _ hx348_12)).trans hx348_12
                  replace hx348_13 := (HB.out.cell (World.block_lt_of_cell? w _ hx348_13)).trans hx348_13
                  replace hx348_14 := (HB.out.cell (World.block_lt_of_cell? w _ hx348_14)).trans hx348_14
                  replace hx348_15 := (HB.out.cell (World.block_lt_of_cell? w _ hx348_15)).trans hx348_15
                  replace hx348_16 := (HB.out.cell (World.block_lt_of_cell? w _ hx348_16)).trans hx348_16
                  have HR348_10 := Aside0.mk hi348_10
                  have HC348_10 := Aside0.mk hl348_10
                  clear hi348_10 hl348_10
                  replace p348 := eq_true p348
                  replace q348 := eq_true q348
                  have p349 : 0 ≤ (x11_1 : Int) := of_decide_eq_true (by first | (with_reducible assumption) | assumption)
                  have q349 : x11_1 < (l1.length : Int) := of_decide_eq_true (by first | (with_reducible assumption) | assumption)
                  obtain ⟨ad349, A349_10, c349_10, e349, hx349_0, hx349_1, hx349_2, hx349_3, hx349_4, hx349_5, hx349_6, hx349_7, hx349_8, hx349_9, hx349_10, hx349_11, hx349_12, hx349_13, hx349_14, hx349_15, hx349_16, hl349_10, hi349_10⟩ := at_T53 HR1.out x11_1 p349 q349
                  have hw349_16 := hx349_16
                  have hw349_15 := hx349_15
                  have hw349_14 := hx349_14
                  have hw349_13 := hx349_13
                  have hw349_12 := hx349_12
                  have hw349_11 := hx349_11
                  have hw349_10 := hx349_10
                  have hw349_9 := hx349_9
                  have hw349_8 := hx349_8
                  have hw349_7 := hx349_7
                  have hw349_6 := hx349_6
                  have hw349_5 := hx349_5
                  have hw349_4 := hx349_4
                  have hw349_3 := hx349_3
                  have hw349_2 := hx349_2
                  have hw349_1 := hx349_1
                  have hw349_0 := hx349_0
                  obtain rfl : ad341 = ad349 := (by injection e349)
                  replace hx349_0 := (HB.out.cell (World.block_lt_of_cell? w _ hx349_0)).trans hx349_0
                  replace hx349_1 := (HB.out.cell (World.block_lt_of_cell? w _ hx349_1)).trans hx349_1
                  replace hx349_2 := (HB.out.cell (World.block_lt_of_cell? w _ hx349_2)).trans hx349_2
                  replace hx349_3 := (HB.out.cell (World.block_lt_of_cell? w _ hx349_3)).trans hx349_3
                  replace hx349_4 := (HB.out.cell (World.block_lt_of_cell? w _ hx349_4)).trans hx349_4
                  replace hx349_5 := (HB.out.cell (World.block_lt_of_cell? w _ hx349_5)).trans hx349_5
                  replace hx349_6 := (HB.out.cell (World.block_lt_of_cell? w _ hx349_6)).trans hx349_6
                  replace hx349_7 := (HB.out.cell (World.block_lt_of_cell? w _ hx349_7)).trans hx349_7
                  replace hx349_8 := (HB.out.cell (World.block_lt_of_cell? w _ hx349_8)).trans hx349_8
                  replace hx349_9 := (HB.out.cell (World.block_lt_of_cell? w _ hx349_9)).trans hx349_9
                  replace hx349_10 := (HB.out.cell (World.block_lt_of_cell? w _ hx349_10)).trans hx349_10
                  replace hx349_11 := (HB.out.cell (World.block_lt_of_cell? w _ hx349_11)).trans hx349_11
                  replace hx349_12 := (HB.out.cell (World.block_lt_of_cell? w _ hx349_12)).trans hx349_12
                  replace hx349_13 := (HB.out.cell (World.block_lt_of_cell? w _ hx349_13)).trans hx349_13
                  replace hx349_14 := (HB.out.cell (World.block_lt_of_cell? w _ hx349_14)).trans hx349_14
                  replace hx349_15 := (HB.out.cell (World.block_lt_of_cell? w _ hx349_15)).trans hx349_15
                  replace hx349_16 := (HB.out.cell (World.block_lt_of_cell? w _ hx349_16)).trans hx349_16
                  have HR349_10 := Aside0.mk hi349_10
                  have HC349_10 := Aside0.mk hl349_10
                  clear hi349_10 hl349_10
                  replace p349 := eq_true p349
                  replace q349 := eq_true q349
                  have ea_ := Option.some.inj (hx348_10.symm.trans hx349_10)
                  injection ea_ with ea_ en_ ec_
                  subst ea_
                  subst ec_
                  clear en_
                  refine start_ (n := 16) (S := fun w' => w'.cell? (ad341.add ((x11_1).toNat * 17)) = some (.int .i64 ((rd_T53 l1 x11_1).f0)) ∧ w'.cell? ⟨(ad341.add ((x11_1).toNat * 17)).block, (ad341.add ((x11_1).toNat * 17)).off + 1, none⟩ = some (.int .i64 ((rd_T53 l1 x11_1).f1)) ∧ w'.cell? ⟨(ad341.add ((x11_1).toNat * 17)).block, (ad341.add ((x11_1).toNat * 17)).off + 2, none⟩ = some (.int .i64 ((rd_T53 l1 x11_1).f2)) ∧ w'.cell? ⟨(ad341.add ((x11_1).toNat * 17)).block, (ad341.add ((x11_1).toNat * 17)).off + 3, none⟩ = some (.string ((rd_T53 l1 x11_1).f3.f0)) ∧ w'.cell? ⟨(ad341.add ((x11_1).toNat * 17)).block, (ad341.add ((x11_1).toNat * 17)).off + 4, none⟩ = some (.string ((rd_T53 l1 x11_1).f3.f1)) ∧ w'.cell? ⟨(ad341.add ((x11_1).toNat * 17)).block, (ad341.add ((x11_1).toNat * 17)).off + 5, none⟩ = some (.string ((rd_T53 l1 x11_1).f3.f2)) ∧ w'.cell? ⟨(ad341.add ((x11_1).toNat * 17)).block, (ad341.add ((x11_1).toNat * 17)).off + 6, none⟩ = some (.string ((rd_T53 l1 x11_1).f3.f3)) ∧ w'.cell? ⟨(ad341.add ((x11_1).toNat * 17)).block, (ad341.add ((x11_1).toNat * 17)).off + 7, none⟩ = some (.int .i64 ((rd_T53 l1 x11_1).f3.f4)) ∧ w'.cell? ⟨(ad341.add ((x11_1).toNat * 17)).block, (ad341.add ((x11_1).toNat * 17)).off + 8, none⟩ = some (.int .i64 ((rd_T53 l1 x11_1).f3.f5)) ∧ w'.cell? ⟨(ad341.add ((x11_1).toNat * 17)).block, (ad341.add ((x11_1).toNat * 17)).off + 9, none⟩ = some (.int .i64 ((rd_T53 l1 x11_1).f3.f6)) ∧ w'.cell? ⟨(ad341.add ((x11_1).toNat * 17)).block, (ad341.add ((x11_1).toNat * 17)).off + 10, none⟩ = some (.slice A348_10 ((rd_T53 l1 x11_1).f3.f7).length c348_10) ∧ w'.cell? ⟨(ad341.add ((x11_1).toNat * 17)).block, (ad341.add ((x11_1).toNat * 17)).off + 11, none⟩ = some (.int .u8 ((rd_T53 l1 x11_1).f4)) ∧ w'.cell? ⟨(ad341.add ((x11_1).toNat * 17)).block, (ad341.add ((x11_1).toNat * 17)).off + 12, none⟩ = some (.int .i64 ((rd_T53 l1 x11_1).f5)) ∧ w'.cell? ⟨(ad341.add ((x11_1).toNat * 17)).block, (ad341.add ((x11_1).toNat * 17)).off + 13, none⟩ = some (.int .i64 ((rd_T53 l1 x11_1).f6)) ∧ w'.cell? ⟨(ad341.add ((x11_1).toNat * 17)).block, (ad341.add ((x11_1).toNat * 17)).off + 14, none⟩ = some (.int .i64 ((rd_T53 l1 x11_1).f7)) ∧ w'.cell? ⟨(ad341.add ((x11_1).toNat * 17)).block, (ad341.add ((x11_1).toNat * 17)).off + 15, none⟩ = some (.int .u32 ((rd_T53 l1 x11_1).f8)) ∧ w'.cell? ⟨(ad341.add ((x11_1).toNat * 17)).block, (ad341.add ((x11_1).toNat * 17)).off + 16, none⟩ = some (.int .i64 ((rd_T53 l1 x11_1).f9)) ∧ w'.cell? (ad341.add ((x11_1).toNat * 17)) = some (.int .i64 ((rd_T53 l1 x11_1).f0)) ∧ w'.cell? ⟨(ad341.add ((x11_1).toNat * 17)).block, (ad341.add ((x11_1).toNat * 17)).off + 1, none⟩ = some (.int .i64 ((rd_T53 l1 x11_1).f1)) ∧ w'.cell? ⟨(ad341.add ((x11_1).toNat * 17)).block, (ad341.add ((x11_1).toNat * 17)).off + 2, none⟩ = some (.int .i64 ((rd_T53 l1 x11_1).f2)) ∧ w'.cell? ⟨(ad341.add ((x11_1).toNat * 17)).block, (ad341.add ((x11_1).toNat * 17)).off + 3, none⟩ = some (.string ((rd_T53 l1 x11_1).f3.f0)) ∧ w'.cell? ⟨(ad341.add ((x11_1).toNat * 17)).block, (ad341.add ((x11_1).toNat * 17)).off + 4, none⟩ = some (.string ((rd_T53 l1 x11_1).f3.f1)) ∧ w'.cell? ⟨(ad341.add ((x11_1).toNat * 17)).block, (ad341.add ((x11_1).toNat * 17)).off + 5, none⟩ = some (.string ((rd_T53 l1 x11_1).f3.f2)) ∧ w'.cell? ⟨(ad341.add ((x11_1).toNat * 17)).block, (ad341.add ((x11_1).toNat * 17)).off + 6, none⟩ = some (.string ((rd_T53 l1 x11_1).f3.f3)) ∧ w'.cell? ⟨(ad341.add ((x11_1).toNat * 17)).block, (ad341.add ((x11_1).toNat * 17)).off + 7, none⟩ = some (.int .i64 ((rd_T53 l1 x11_1).f3.f4)) ∧ w'.cell? ⟨(ad341.add ((x11_1).toNat * 17)).block, (ad341.add ((x11_1).toNat * 17)).off + 8, none⟩ = some (.int .i64 ((rd_T53 l1 x11_1).f3.f5)) ∧ w'.cell? ⟨(ad341.add ((x11_1).toNat * 17)).block, (ad341.add ((x11_1).toNat * 17)).off + 9, none⟩ = some (.int .i64 ((rd_T53 l1 x11_1).f3.f6)) ∧ w'.cell? ⟨(ad341.add ((x11_1).toNat * 17)).block, (ad341.add ((x11_1).toNat * 17)).off + 10, none⟩ = some (.slice A348_10 ((rd_T53 l1 x11_1).f3.f7).length c348_10) ∧ w'.cell? ⟨(ad341.add ((x11_1).toNat * 17)).block, (ad341.add ((x11_1).toNat * 17)).off + 11, none⟩ = some (.int .u8 ((rd_T53 l1 x11_1).f4)) ∧ w'.cell? ⟨(ad341.add ((x11_1).toNat * 17)).block, (ad341.add ((x11_1).toNat * 17)).off + 12, none⟩ = some (.int .i64 ((rd_T53 l1 x11_1).f5)) ∧ w'.cell? ⟨(ad341.add ((x11_1).toNat * 17)).block, (ad341.add ((x11_1).toNat * 17)).off + 13, none⟩ = some (.int .i64 ((rd_T53 l1 x11_1).f6)) ∧ w'.cell? ⟨(ad341.add ((x11_1).toNat * 17)).block, (ad341.add ((x11_1).toNat * 17)).off + 14, none⟩ = some (.int .i64 ((rd_T53 l1 x11_1).f7)) ∧ w'.cell? ⟨(ad341.add ((x11_1).toNat * 17)).block, (ad341.add ((x11_1).toNat * 17)).off + 15, none⟩ = some (.int .u32 ((rd_T53 l1 x11_1).f8)) ∧ w'.cell? ⟨(ad341.add ((x11_1).toNat * 17)).block, (ad341.add ((x11_1).toNat * 17)).off + 16, none⟩ = some (.int .i64 ((rd_T53 l1 x11_1).f9))) (ds := []) (lk 16 0) (by kernel_rfl) rfl rfl ⟨((HB.out.cell (World.block_lt_of_cell? w _ hw348_0)).trans hw348_0), ((HB.out.cell (World.block_lt_of_cell? w _ hw348_1)).trans hw348_1), ((HB.out.cell (World.block_lt_of_cell? w _ hw348_2)).trans hw348_2), ((HB.out.cell (World.block_lt_of_cell? w _ hw348_3)).trans hw348_3), ((HB.out.cell (World.block_lt_of_cell? w _ hw348_4)).trans hw348_4), ((HB.out.cell (World.block_lt_of_cell? w _ hw348_5)).trans hw348_5), ((HB.out.cell (World.block_lt_of_cell? w _ hw348_6)).trans hw348_6), ((HB.out.cell (World.block_lt_of_cell? w _ hw348_7)).trans hw348_7), ((HB.out.cell (World.block_lt_of_cell? w _ hw348_8)).trans hw348_8), ((HB.out.cell (World.block_lt_of_cell? w _ hw348_9)).trans hw348_9), ((HB.out.cell (World.block_lt_of_cell? w _ hw348_10)).trans hw348_10), ((HB.out.cell (World.block_lt_of_cell? w _ hw348_11)).trans hw348_11), ((HB.out.cell (World.block_lt_of_cell? w _ hw348_12)).trans hw348_12), ((HB.out.cell (World.block_lt_of_cell? w _ hw348_13)).trans hw348_13), ((HB.out.cell (World.block_lt_of_cell? w _ hw348_14)).trans hw348_14), ((HB.out.cell (World.block_lt_of_cell? w _ hw348_15)).trans hw348_15), ((HB.out.cell (World.block_lt_of_cell? w _ hw348_16)).trans hw348_16), ((HB.out.cell (World.block_lt_of_cell? w _ hw349_0)).trans hw349_0), ((HB.out.cell (World.block_lt_of_cell? w _ hw349_1)).trans hw349_1), ((HB.out.cell (World.block_lt_of_cell? w _ hw349_2)).trans hw349_2), ((HB.out.cell (World.block_lt_of_cell? w _ hw349_3)).trans hw349_3), ((HB.out.cell (World.block_lt_of_cell? w _ hw349_4)).trans hw349_4), ((HB.out.cell (World.block_lt_of_cell? w _ hw349_5)).trans hw349_5), ((HB.out.cell (World.block_lt_of_cell? w _ hw349_6)).trans hw349_6), ((HB.out.cell (World.block_lt_of_cell? w _ hw349_7)).trans hw349_7), ((HB.out.cell (World.block_lt_of_cell? w _ hw349_8)).trans hw349_8), ((HB.out.cell (World.block_lt_of_cell? w _ hw349_9)).trans hw349_9), ((HB.out.cell (World.block_lt_of_cell? w _ hw349_10)).trans hw349_10), ((HB.out.cell (World.block_lt_of_cell? w _ hw349_11)).trans hw349_11), ((HB.out.cell (World.block_lt_of_cell? w _ hw349_12)).trans hw349_12), ((HB.out.cell (World.block_lt_of_cell? w _ hw349_13)).trans hw349_13), ((HB.out.cell (World.block_lt_of_cell? w _ hw349_14)).trans hw349_14), ((HB.out.cell (World.block_lt_of_cell? w _ hw349_15)).trans hw349_15), ((HB.out.cell (World.block_lt_of_cell? w _ hw349_16)).trans hw349_16)⟩ (fun hHeld => ?_); refine with_tabW musterref15_Cores.tab12 musterref15_Cores.bits12 (fun HT_ HW_ => ?_)
                  generalize w19.drew = w21 at HO345 BK337 HB HR348_10 HR349_10 hx348_0 hx348_1 hx348_10 hx348_11 hx348_12 hx348_13 hx348_14 hx348_15 hx348_16 hx348_2 hx348_3 hx348_4 hx348_5 hx348_6 hx348_7 hx348_8 hx348_9 hx349_0 hx349_1 hx349_10 hx349_11 hx349_12 hx349_13 hx349_14 hx349_15 hx349_16 hx349_2 hx349_3 hx349_4 hx349_5 hx349_6 hx349_7 hx349_8 hx349_9 hHeld ⊢
                  refine pu (i := 0) (N := some 55) (lk 16 1) ?_
                  refine pu (i := 1) (N := some 56) (lk 16 3) ?_
                  refine pu (i := 2) (N := some 57) (lk 16 7) ?_
                  refine pu (i := 3) (N := some 58) (lk 16 15) ?_
                  refine pu (i := 4) (N := some 59) (lk 16 31) ?_
                  refine pu (i := 5) (N := some 60) (lk 16 63) ?_
                  refine pu (i := 7) (N := some 62) (lk 16 191) ?_
                  refine pu (i := 8) (N := some 63) (lk 16 447) ?_
                  refine pu (i := 9) (N := some 64) (lk 16 959) ?_
                  refine pu (i := 10) (N := some 65) (lk 16 1983) ?_
                  refine pu (i := 11) (N := some 66) (lk 16 4031) ?_
                  refine take_ (i := 6) (N := some 61) (v := ?_) (a' := ?_) (lk 16 4095) rfl rfl (take_ofW HT_.out HW_.out (by kernel_rfl)) (fun _ _ _ h => h) (Or.inl ⟨by rfl, ?_⟩) hHeld ?_ ?_
                  rotate_left
                  · rintro w' ⟨s0, s1, s2, s3, s4, s5, s6, s7, s8, s9, s10, s11, s12, s13, s14, s15, s16, s17, s18, s19, s20, s21, s22, s23, s24, s25, s26, s27, s28, s29, s30, s31, s32, s33⟩
                    go_simp
                    with_reducible rfl
                  rotate_left
                  · simp only [Act.put, List.setIfInBounds_toArray, List.set_cons_zero, List.set_cons_succ, i64_w, i32_w]
                    rfl
                  refine take_ (i := 12) (N := some 67) (v := ?_) (a' := ?_) (lk 16 8191) rfl rfl (take_ofW HT_.out HW_.out (by kernel_rfl)) (fun _ _ _ h => h) (Or.inl ⟨by rfl, ?_⟩) hHeld ?_ ?_
                  rotate_left
                  · rintro w' ⟨s0, s1, s2, s3, s4, s5, s6, s7, s8, s9, s10, s11, s12, s13, s14, s15, s16, s17, s18, s19, s20, s21, s22, s23, s24, s25, s26, s27, s28, s29, s30, s31, s32, s33⟩
                    go_simp
                    with_reducible rfl
                  rotate_left
                  · simp only [Act.put, List.setIfInBounds_toArray, List.set_cons_zero, List.set_cons_succ, i64_w, i32_w]
                    rfl
                  refine pu (i := 13) (N := some 68) (lk 16 16383) ?_
                  refine pu (i := 14) (N := some 69) (lk 16 32767) ?_
                  refine pu (i := 15) (N := some 10) (lk 16 65535) ?_
                  refine done_ (done_of HT_.out (by kernel_rfl)) ?_
                  try go_wp2
                  go_roundg k1
                  case measure => have := HK1.out; omega
                  case rel => exact ⟨(wrap64 (x10_1 + (wrap64 (((rd_T53 l1 x11_1).f3.f4) * ((rd_T53 l1 x11_1).f3.f5))))), (wrap64 (x11_1 + 1)), (by first | rfl | (simp; done) | (simp [*]; done)), (by first | rfl | (simp; done) | (simp [*]; done)), H', ⟨by have := HK1.out; omega⟩, ⟨by (with_reducible repeat (first | refine blk_drewN ?_ _ | refine blk_drew ?_ | refine blk_alloc ?_ _)); exact BK337.out⟩, ⟨by repeat (first | (with_reducible first | exact HB.out | apply below_alloc | apply pw_below_drewN | apply below_drew1 | refine below_set ?_ GE337.out) | exact HB.out)⟩⟩
                · replace c17 := Bool.eq_false_iff.mpr c17
                  subst c17
                  have H1 : (musterref15_Cores.l0 k1 l1 a2 x10_1 (wrap64 (x11_1 + 1)) l0_0 l0_1 l0_2 l0_3 a0_4) = some (r1, r2) := by rw [if_neg (show ¬ (false = true) by decide)] at H; exact H
                  clear H
                  have H := H1
                  clear H1
                  have H' := Aside0.mk H
                  clear H
                  try go_wp2
                  have n0_ := Aside0.mk (blk_drew BK337.out)
                  have n1_ := Aside0.mk (below_drew1 HB.out)
                  clear BK337
                  clear HB
                  have BK337 := n0_
                  have HB := n1_
                  clear n0_ n1_
                  have p341 : 0 ≤ (x11_1 : Int) := of_decide_eq_true (by first | (with_reducible assumption) | assumption)
                  have q341 : x11_1 < (l1.length : Int) := of_decide_eq_true (by first | (with_reducible assumption) | assumption)
                  obtain ⟨ad341, A341_10, c341_10, e341, hx341_0, hx341_1, hx341_2, hx341_3, hx341_4, hx341_5, hx341_6, hx341_7, hx341_8, hx341_9, hx341_10, hx341_11, hx341_12, hx341_13, hx341_14, hx341_15, hx341_16, hl341_10, hi341_10⟩ := at_T53 HR1.out x11_1 p341 q341
                  have hw341_16 := hx341_16
                  have hw341_15 := hx341_15
                  have hw341_14 := hx341_14
                  have hw341_13 := hx341_13
                  have hw341_12 := hx341_12
                  have hw341_11 := hx341_11
                  have hw341_10 := hx341_10
                  have hw341_9 := hx341_9
                  have hw341_8 := hx341_8
                  have hw341_7 := hx341_7
                  have hw341_6 := hx341_6
                  have hw341_5 := hx341_5
                  have hw341_4 := hx341_4
                  have hw341_3 := hx341_3
                  have hw341_2 := hx341_2
                  have hw341_1 := hx341_1
                  have hw341_0 := hx341_0
                  cases e341
                  replace hx341_0 := (HB.out.cell (World.block_lt_of_cell? w _ hx341_0)).trans hx341_0
                  replace hx341_1 := (HB.out.cell (World.block_lt_of_cell? w _ hx341_1)).trans hx341_1
                  replace hx341_2 := (HB.out.cell (World.block_lt_of_cell? w _ hx341_2)).trans hx341_2
                  replace hx341_3 := (HB.out.cell (World.block_lt_of_cell? w _ hx341_3)).trans hx341_3
                  replace hx341_4 := (HB.out.cell (World.block_lt_of_cell? w _ hx341_4)).trans hx341_4
                  replace hx341_5 := (HB.out.cell (World.block_lt_of_cell? w _ hx341_5)).trans hx341_5
                  replace hx341_6 := (HB.out.cell (World.block_lt_of_cell? w _ hx341_6)).trans hx341_6
                  replace hx341_7 := (HB.out.cell (World.block_lt_of_cell? w _ hx341_7)).trans hx341_7
                  replace hx341_8 := (HB.out.cell (World.block_lt_of_cell? w _ hx341_8)).trans hx341_8
                  replace hx341_9 := (HB.out.cell (World.block_lt_of_cell? w _ hx341_9)).trans hx341_9
                  replace hx341_10 := (HB.out.cell (World.block_lt_of_cell? w _ hx341_10)).trans hx341_10
                  replace hx341_11 := (HB.out.cell (World.block_lt_of_cell? w _ hx341_11)).trans hx341_11
                  replace hx341_12 := (HB.out.cell (World.block_lt_of_cell? w _ hx341_12)).trans hx341_12
                  replace hx341_13 := (HB.out.cell (World.block_lt_of_cell? w _ hx341_13)).trans hx341_13
                  replace hx341_14 := (HB.out.cell (World.block_lt_of_cell? w _ hx341_14)).trans hx341_14
                  replace hx341_15 := (HB.out.cell (World.block_lt_of_cell? w _ hx341_15)).trans hx341_15
                  replace hx341_16 := (HB.out.cell (World.block_lt_of_cell? w _ hx341_16)).trans hx341_16
                  have HR341_10 := Aside0.mk hi341_10
                  have HC341_10 := Aside0.mk hl341_10
                  clear hi341_10 hl341_10
                  replace p341 := eq_true p341
                  replace q341 := eq_true q341
                  refine start_ (n := 14) (S := fun w' => w'.cell? ⟨gb337, 0, none⟩ = some (.slice A0_0 l0_0.length c0_0) ∧ w'.cell? ⟨gb337, 1, none⟩ = some (.slice A0_1 l0_1.length c0_1) ∧ w'.cell? ⟨gb337, 2, none⟩ = some (.slice A0_2 l0_2.length c0_2) ∧ w'.cell? ⟨gb337, 3, none⟩ = some (.slice A0_3 l0_3.length c0_3) ∧ w'.cell? ⟨gb337, 4, none⟩ = some (.int .u8 a0_4) ∧ w'.cell? (ad341.add ((x11_1).toNat * 17)) = some (.int .i64 ((rd_T53 l1 x11_1).f0)) ∧ w'.cell? ⟨(ad341.add ((x11_1).toNat * 17)).block, (ad341.add ((x11_1).toNat * 17)).off + 1, none⟩ = some (.int .i64 ((rd_T53 l1 x11_1).f1)) ∧ w'.cell? ⟨(ad341.add ((x11_1).toNat * 17)).block, (ad341.add ((x11_1).toNat * 17)).off + 2, none⟩ = some (.int .i64 ((rd_T53 l1 x11_1).f2)) ∧ w'.cell? ⟨(ad341.add ((x11_1).toNat * 17)).block, (ad341.add ((x11_1).toNat * 17)).off + 3, none⟩ = some (.string ((rd_T53 l1 x11_1).f3.f0)) ∧ w'.cell? ⟨(ad341.add ((x11_1).toNat * 17)).block, (ad341.add ((x11_1).toNat * 17)).off + 4, none⟩ = some (.string ((rd_T53 l1 x11_1).f3.f1)) ∧ w'.cell? ⟨(ad341.add ((x11_1).toNat * 17)).block, (ad341.add ((x11_1).toNat * 17)).off + 5, none⟩ = some (.string ((rd_T53 l1 x11_1).f3.f2)) ∧ w'.cell? ⟨(ad341.add ((x11_1).toNat * 17)).block, (ad341.add ((x11_1).toNat * 17)).off + 6, none⟩ = some (.string ((rd_T53 l1 x11_1).f3.f3)) ∧ w'.cell? ⟨(ad341.add ((x11_1).toNat * 17)).block, (ad341.add ((x11_1).toNat * 17)).off + 7, none⟩ = some (.int .i64 ((rd_T53 l1 x11_1).f3.f4)) ∧ w'.cell? ⟨(ad341.add ((x11_1).toNat * 17)).block, (ad341.add ((x11_1).toNat * 17)).off + 8, none⟩ = some (.int .i64 ((rd_T53 l1 x11_1).f3.f5)) ∧ w'.cell? ⟨(ad341.add ((x11_1).toNat * 17)).block, (ad341.add ((x11_1).toNat * 17)).off + 9, none⟩ = some (.int .i64 ((rd_T53 l1 x11_1).f3.f6)) ∧ w'.cell? ⟨(ad341.add ((x11_1).toNat * 17)).block, (ad341.add ((x11_1).toNat * 17)).off + 10, none⟩ = some (.slice A341_10 ((rd_T53 l1 x11_1).f3.f7).length c341_10) ∧ w'.cell? ⟨(ad341.add ((x11_1).toNat * 17)).block, (ad341.add ((x11_1).toNat * 17)).off + 11, none⟩ = some (.int .u8 ((rd_T53 l1 x11_1).f4)) ∧ w'.cell? ⟨(ad341.add ((x11_1).toNat * 17)).block, (ad341.add ((x11_1).toNat * 17)).off + 12, none⟩ = some (.int .i64 ((rd_T53 l1 x11_1).f5)) ∧ w'.cell? ⟨(ad341.add ((x11_1).toNat * 17)).block, (ad341.add ((x11_1).toNat * 17)).off + 13, none⟩ = some (.int .i64 ((rd_T53 l1 x11_1).f6)) ∧ w'.cell? ⟨(ad341.add ((x11_1).toNat * 17)).block, (ad341.add ((x11_1).toNat * 17)).off + 14, none⟩ = some (.int .i64 ((rd_T53 l1 x11_1).f7)) ∧ w'.cell? ⟨(ad341.add ((x11_1).toNat * 17)).block, (ad341.add ((x11_1).toNat * 17)).off + 15, none⟩ = some (.int .u32 ((rd_T53 l1 x11_1).f8)) ∧ w'.cell? ⟨(ad341.add ((x11_1).toNat * 17)).block, (ad341.add ((x11_1).toNat * 17)).off + 16, none⟩ = some (.int .i64 ((rd_T53 l1 x11_1).f9))) (ds := []) (lk 14 0) (by kernel_rfl) rfl rfl ⟨(blk_cell BK337.out 0).trans rfl, (blk_cell BK337.out 1).trans rfl, (blk_cell BK337.out 2).trans rfl, (blk_cell BK337.out 3).trans rfl, (blk_cell BK337.out 4).trans rfl, ((HB.out.cell (World.block_lt_of_cell? w _ hw341_0)).trans hw341_0), ((HB.out.cell (World.block_lt_of_cell? w _ hw341_1)).trans hw341_1), ((HB.out.cell (World.block_lt_of_cell? w _ hw341_2)).trans hw341_2), ((HB.out.cell (World.block_lt_of_cell? w _ hw341_3)).trans hw341_3), ((HB.out.cell (World.block_lt_of_cell? w _ hw341_4)).trans hw341_4), ((HB.out.cell (World.block_lt_of_cell? w _ hw341_5)).trans hw341_5), ((HB.out.cell (World.block_lt_of_cell? w _ hw341_6)).trans hw341_6), ((HB.out.cell (World.block_lt_of_cell? w _ hw341_7)).trans hw341_7), ((HB.out.cell (World.block_lt_of_cell? w _ hw341_8)).trans hw341_8), ((HB.out.cell (World.block_lt_of_cell? w _ hw341_9)).trans hw341_9), ((HB.out.cell (World.block_lt_of_cell? w _ hw341_10)).trans hw341_10), ((HB.out.cell (World.block_lt_of_cell? w _ hw341_11)).trans hw341_11), ((HB.out.cell (World.block_lt_of_cell? w _ hw341_12)).trans hw341_12), ((HB.out.cell (World.block_lt_of_cell? w _ hw341_13)).trans hw341_13), ((HB.out.cell (World.block_lt_of_cell? w _ hw341_14)).trans hw341_14), ((HB.out.cell (World.block_lt_of_cell? w _ hw341_15)).trans hw341_15), ((HB.out.cell (World.block_lt_of_cell? w _ hw341_16)).trans hw341_16)⟩ (fun hHeld => ?_); refine with_tabW musterref15_Cores.tab10 musterref15_Cores.bits10 (fun HT_ HW_ => ?_)
                  generalize wr.drew = w22 at BK337 HB HR341_10 hx341_0 hx341_1 hx341_10 hx341_11 hx341_12 hx341_13 hx341_14 hx341_15 hx341_16 hx341_2 hx341_3 hx341_4 hx341_5 hx341_6 hx341_7 hx341_8 hx341_9 hHeld ⊢
                  refine pu (i := 0) (N := some 33) (lk 14 1) ?_
                  refine pu (i := 2) (N := some 35) (lk 14 5) ?_
                  refine pu (i := 3) (N := some 36) (lk 14 13) ?_
                  refine pu (i := 4) (N := some 37) (lk 14 29) ?_
                  refine pu (i := 5) (N := some 38) (lk 14 61) ?_
                  refine pu (i := 6) (N := some 39) (lk 14 125) ?_
                  refine take_ (i := 1) (N := some 34) (v := ?_) (a' := ?_) (lk 14 127) rfl rfl (take_ofW HT_.out HW_.out (by kernel_rfl)) (fun _ _ _ h => h) (Or.inl ⟨by rfl, ?_⟩) hHeld ?_ ?_
                  rotate_left
                  · rintro w' ⟨s0, s1, s2, s3, s4, s5, s6, s7, s8, s9, s10, s11, s12, s13, s14, s15, s16, s17, s18, s19, s20, s21⟩
                    go_simp
                    with_reducible rfl
                  rotate_left
                  · simp only [Act.put, List.setIfInBounds_toArray, List.set_cons_zero, List.set_cons_succ, i64_w, i32_w]
                    rfl
                  refine take_ (i := 7) (N := some 40) (v := ?_) (a' := ?_) (lk 14 255) rfl rfl (take_ofW HT_.out HW_.out (by kernel_rfl)) (fun _ _ _ h => h) (Or.inl ⟨by rfl, ?_⟩) hHeld ?_ ?_
                  rotate_left
                  · rintro w' ⟨s0, s1, s2, s3, s4, s5, s6, s7, s8, s9, s10, s11, s12, s13, s14, s15, s16, s17, s18, s19, s20, s21⟩
                    go_simp
                    with_reducible rfl
                  rotate_left
                  · simp only [Act.put, List.setIfInBounds_toArray, List.set_cons_zero, List.set_cons_succ, i64_w, i32_w]
                    rfl
                  refine on1 (i := 8) (N := some 41) (lk 14 511) (fun K hK => ?_)
                  refine goes_ Try.func31 (by kernel_rfl) rfl #[.slice A0_2 l0_2.length c0_2, .string ((rd_T53 l1 x11_1).f3.f1)] (by rfl) rfl rfl (by (try simp only [List.map_toArray, List.map_cons, List.map_nil]); first | done | rfl | (simp only [List.length_drop, List.length_take]; rfl)) ?_
                  with_reducible refine (musterref14_Path.calls k1 _ _ l0_2 ((rd_T53 l1 x11_1).f3.f1) t342 t343 _ ?side1 ?side2 A14.out).mono ?_
                  (case side1 => repeat (first | exact (Kd.C_below HR0_2.out HB.out) | (with_reducible refine Kd.C_alloc ?_ _) | (with_reducible refine Kd.C_drewN ?_ _) | (with_reducible refine Kd.C_drew ?_)))
                  (case side2 => exact HC0_2.out)
                  rintro e w23 ⟨v344, rfl, ho0, hb⟩
                  refine ⟨_, rfl, ?_⟩
                  have n0_ := Aside0.mk (Kd.R_lower ho0 (below_size (by repeat (first | (with_reducible first | exact HB.out | apply below_alloc | apply pw_below_drewN | apply below_drew1 | refine below_set ?_ GE337.out) | exact HB.out))))
                  have n1_ := Aside0.mk (blk_below (g := gb337) (o := .cells #[.slice A0_0 l0_0.length c0_0, .slice A0_1 l0_1.length c0_1, .slice A0_2 l0_2.length c0_2, .slice A0_3 l0_3.length c0_3, .int .u8 a0_4] 28 (0, 0)) (by (with_reducible repeat (first | refine blk_drewN ?_ _ | refine blk_drew ?_ | refine blk_alloc ?_ _)); exact BK337.out) hb)
                  have n2_ := Aside0.mk (below_step (by repeat (first | (with_reducible first | exact HB.out | apply below_alloc | apply pw_below_drewN | apply below_drew1 | refine below_set ?_ GE337.out) | exact HB.out)) hb)
                  clear BK337
                  clear HB
                  have HO345 := n0_
                  have BK337 := n1_
                  have HB := n2_
                  clear n0_ n1_ n2_
                  (try clear hb)
                  (try clear hb2)
                  (try clear hk)
                  (try clear hi)
                  (try clear ho0)
                  refine hK.out _ _ ⟨(blk_cell BK337.out 0).trans rfl, (blk_cell BK337.out 1).trans rfl, (blk_cell BK337.out 2).trans rfl, (blk_cell BK337.out 3).trans rfl, (blk_cell BK337.out 4).trans rfl, ((HB.out.cell (World.block_lt_of_cell? w _ hw341_0)).trans hw341_0), ((HB.out.cell (World.block_lt_of_cell? w _ hw341_1)).trans hw341_1), ((HB.out.cell (World.block_lt_of_cell? w _ hw341_2)).trans hw341_2), ((HB.out.cell (World.block_lt_of_cell? w _ hw341_3)).trans hw341_3), ((HB.out.cell (World.block_lt_of_cell? w _ hw341_4)).trans hw341_4), ((HB.out.cell (World.block_lt_of_cell? w _ hw341_5)).trans hw341_5), ((HB.out.cell (World.block_lt_of_cell? w _ hw341_6)).trans hw341_6), ((HB.out.cell (World.block_lt_of_cell? w _ hw341_7)).trans hw341_7), ((HB.out.cell (World.block_lt_of_cell? w _ hw341_8)).trans hw341_8), ((HB.out.cell (World.block_lt_of_cell? w _ hw341_9)).trans hw341_9), ((HB.out.cell (World.block_lt_of_cell? w _ hw341_10)).trans hw341_10), ((HB.out.cell (World.block_lt_of_cell? w _ hw341_11)).trans hw341_11), ((HB.out.cell (World.block_lt_of_cell? w _ hw341_12)).trans hw341_12), ((HB.out.cell (World.block_lt_of_cell? w _ hw341_13)).trans hw341_13), ((HB.out.cell (World.block_lt_of_cell? w _ hw341_14)).trans hw341_14), ((HB.out.cell (World.block_lt_of_cell? w _ hw341_15)).trans hw341_15), ((HB.out.cell (World.block_lt_of_cell? w _ hw341_16)).trans hw341_16)⟩ (fun hHeld => ?_)
                  clear hK K
                  refine nm (some 41) ?_
                  refine pu (i := 9) (N := some 32) (lk 14 1023) ?_
                  refine pu (i := 10) (N := some 42) (lk 14 2047) ?_
                  refine pu (i := 11) (N := some 43) (lk 14 4095) ?_
                  refine pu (i := 12) (N := some 12) (lk 14 8191) ?_
                  refine pu (i := 13) (N := some 13) (lk 14 16383) ?_
                  refine done_ (done_of HT_.out (by kernel_rfl)) ?_
                  have p346 : 0 ≤ (x11_1 : Int) := of_decide_eq_true (by first | (with_reducible assumption) | assumption)
                  have q346 : x11_1 < (l1.length : Int) := of_decide_eq_true (by first | (with_reducible assumption) | assumption)
                  obtain ⟨ad346, A346_10, c346_10, e346, hx346_0, hx346_1, hx346_2, hx346_3, hx346_4, hx346_5, hx346_6, hx346_7, hx346_8, hx346_9, hx346_10, hx346_11, hx346_12, hx346_13, hx346_14, hx346_15, hx346_16, hl346_10, hi346_10⟩ := at_T53 HR1.out x11_1 p346 q346
                  obtain rfl : ad341 = ad346 := (by injection e346)
                  replace hx346_0 := (HB.out.cell (World.block_lt_of_cell? w _ hx346_0)).trans hx346_0
                  replace hx346_1 := (HB.out.cell (World.block_lt_of_cell? w _ hx346_1)).trans hx346_1
                  replace hx346_2 := (HB.out.cell (World.block_lt_of_cell? w _ hx346_2)).trans hx346_2
                  replace hx346_3 := (HB.out.cell (World.block_lt_of_cell? w _ hx346_3)).trans hx346_3
                  replace hx346_4 := (HB.out.cell (World.block_lt_of_cell? w _ hx346_4)).trans hx346_4
                  replace hx346_5 := (HB.out.cell (World.block_lt_of_cell? w _ hx346_5)).trans hx346_5
                  replace hx346_6 := (HB.out.cell (World.block_lt_of_cell? w _ hx346_6)).trans hx346_6
                  replace hx346_7 := (HB.out.cell (World.block_lt_of_cell? w _ hx346_7)).trans hx346_7
                  replace hx346_8 := (HB.out.cell (World.block_lt_of_cell? w _ hx346_8)).trans hx346_8
                  replace hx346_9 := (HB.out.cell (World.block_lt_of_cell? w _ hx346_9)).trans hx346_9
                  replace hx346_10 := (HB.out.cell (World.block_lt_of_cell? w _ hx346_10)).trans hx346_10
                  replace hx346_11 := (HB.out.cell (World.block_lt_of_cell? w _ hx346_11)).trans hx346_11
                  replace hx346_12 := (HB.out.cell (World.block_lt_of_cell? w _ hx346_12)).trans hx346_12
                  replace hx346_13 := (HB.out.cell (World.block_lt_of_cell? w _ hx346_13)).trans hx346_13
                  replace hx346_14 := (HB.out.cell (World.block_lt_of_cell? w _ hx346_14)).trans hx346_14
                  replace hx346_15 := (HB.out.cell (World.block_lt_of_cell? w _ hx346_15)).trans hx346_15
                  replace hx346_16 := (HB.out.cell (World.block_lt_of_cell? w _ hx346_16)).trans hx346_16
                  have HR346_10 := Aside0.mk hi346_10
                  have HC346_10 := Aside0.mk hl346_10
                  clear hi346_10 hl346_10
                  replace p346 := eq_true p346
                  replace q346 := eq_true q346
                  obtain ⟨Ao24, co24, eo24⟩ := Kd.R_slice HO345.out
                  subst eo24
                  try go_wp2_with (first | (go_at_call 32; (with_reducible refine (musterref14_In.calls k1 _ _ t342 a2 false _ ?side1 ?side2 A16.out).mono ?_); (case side1 => repeat (first | exact (Kd.R_reads' HO345.out).2.2 | (with_reducible refine Kd.C_alloc ?_ _) | (with_reducible refine Kd.C_drewN ?_ _) | (with_reducible refine Kd.C_drew ?_))); (case side2 => exact (Kd.R_reads' HO345.out).2.1); rintro e w' ⟨rfl, ⟨nd, rfl⟩⟩))
                  go_roundg k1
                  case measure => have := HK1.out; omega
                  case rel => exact ⟨(x10_1), (wrap64 (x11_1 + 1)), (by first | rfl | (simp; done) | (simp [*]; done)), (by first | rfl | (simp; done) | (simp [*]; done)), H', ⟨by have := HK1.out; omega⟩, ⟨by (with_reducible repeat (first | refine blk_drewN ?_ _ | refine blk_drew ?_ | refine blk_alloc ?_ _)); exact BK337.out⟩, ⟨by repeat (first | (with_reducible first | exact HB.out | apply below_alloc | apply pw_below_drewN | apply below_drew1 | refine below_set ?_ GE337.out) | exact HB.out)⟩⟩
              · rw [if_neg c15] at H
                have c15b0 : (((rd_T53 l1 x11_1).f4) == 2) = false := beq_eq_false_iff_ne.mpr c15
                have c15b1 : (((rd_T53 l1 x11_1).f4) != 2) = true := bne_iff_ne.mpr c15
                have H' := Aside0.mk H
                clear H
                try go_wp2
                have n0_ := Aside0.mk (blk_drew BK337.out)
                have n1_ := Aside0.mk (below_drew1 HB.out)
                clear BK337
                clear HB
                have BK337 := n0_
                have HB := n1_
                clear n0_ n1_
                have p341 : 0 ≤ (x11_1 : Int) := of_decide_eq_true (by first | (with_reducible assumption) | assumption)
                have q341 : x11_1 < (l1.length : Int) := of_decide_eq_true (by first | (with_reducible assumption) | assumption)
                obtain ⟨ad341, A341_10, c341_10, e341, hx341_0, hx341_1, hx341_2, hx341_3, hx341_4, hx341_5, hx341_6, hx341_7, hx341_8, hx341_9, hx341_10, hx341_11, hx341_12, hx341_13, hx341_14, hx341_15, hx341_16, hl341_10, hi341_10⟩ := at_T53 HR1.out x11_1 p341 q341
                have hw341_16 := hx341_16
                have hw341_15 := hx341_15
                have hw341_14 := hx341_14
                have hw341_13 := hx341_13
                have hw341_12 := hx341_12
                have hw341_11 := hx341_11
                have hw341_10 := hx341_10
                have hw341_9 := hx341_9
                have hw341_8 := hx341_8
                have hw341_7 := hx341_7
                have hw341_6 := hx341_6
                have hw341_5 := hx341_5
                have hw341_4 := hx341_4
                have hw341_3 := hx341_3
                have hw341_2 := hx341_2
                have hw341_1 := hx341_1
                have hw341_0 := hx341_0
                cases e341
                replace hx341_0 := (HB.out.cell (World.block_lt_of_cell? w _ hx341_0)).trans hx341_0
                replace hx341_1 := (HB.out.cell (World.block_lt_of_cell? w _ hx341_1)).trans hx341_1
                replace hx341_2 := (HB.out.cell (World.block_lt_of_cell? w _ hx341_2)).trans hx341_2
                replace hx341_3 := (HB.out.cell (World.block_lt_of_cell? w _ hx341_3)).trans hx341_3
                replace hx341_4 := (HB.out.cell (World.block_lt_of_cell? w _ hx341_4)).trans hx341_4
                replace hx341_5 := (HB.out.cell (World.block_lt_of_cell? w _ hx341_5)).trans hx341_5
                replace hx341_6 := (HB.out.cell (World.block_lt_of_cell? w _ hx341_6)).trans hx341_6
                replace hx341_7 := (HB.out.cell (World.block_lt_of_cell? w _ hx341_7)).trans hx341_7
                replace hx341_8 := (HB.out.cell (World.block_lt_of_cell? w _ hx341_8)).trans hx341_8
                replace hx341_9 := (HB.out.cell (World.block_lt_of_cell? w _ hx341_9)).trans hx341_9
                replace hx341_10 := (HB.out.cell (World.block_lt_of_cell? w _ hx341_10)).trans hx341_10
                replace hx341_11 := (HB.out.cell (World.block_lt_of_cell? w _ hx341_11)).trans hx341_11
                replace hx341_12 := (HB.out.cell (World.block_lt_of_cell? w _ hx341_12)).trans hx341_12
                replace hx341_13 := (HB.out.cell (World.block_lt_of_cell? w _ hx341_13)).trans hx341_13
                replace hx341_14 := (HB.out.cell (World.block_lt_of_cell? w _ hx341_14)).trans hx341_14
                replace hx341_15 := (HB.out.cell (World.block_lt_of_cell? w _ hx341_15)).trans hx341_15
                replace hx341_16 := (HB.out.cell (World.block_lt_of_cell? w _ hx341_16)).trans hx341_16
                have HR341_10 := Aside0.mk hi341_10
                have HC341_10 := Aside0.mk hl341_10
                clear hi341_10 hl341_10
                replace p341 := eq_true p341
                replace q341 := eq_true q341
                refine start_ (n := 14) (S := fun w' => w'.cell? ⟨gb337, 0, none⟩ = some (.slice A0_0 l0_0.length c0_0) ∧ w'.cell? ⟨gb337, 1, none⟩ = some (.slice A0_1 l0_1.length c0_1) ∧ w'.cell? ⟨gb337, 2, none⟩ = some (.slice A0_2 l0_2.length c0_2) ∧ w'.cell? ⟨gb337, 3, none⟩ = some (.slice A0_3 l0_3.length c0_3) ∧ w'.cell? ⟨gb337, 4, none⟩ = some (.int .u8 a0_4) ∧ w'.cell? (ad341.add ((x11_1).toNat * 17)) = some (.int .i64 ((rd_T53 l1 x11_1).f0)) ∧ w'.cell? ⟨(ad341.add ((x11_1).toNat * 17)).block, (ad341.add ((x11_1).toNat * 17)).off + 1, none⟩ = some (.int .i64 ((rd_T53 l1 x11_1).f1)) ∧ w'.cell? ⟨(ad341.add ((x11_1).toNat * 17)).block, (ad341.add ((x11_1).toNat * 17)).off + 2, none⟩ = some (.int .i64 ((rd_T53 l1 x11_1).f2)) ∧ w'.cell? ⟨(ad341.add ((x11_1).toNat * 17)).block, (ad341.add ((x11_1).toNat * 17)).off + 3, none⟩ = some (.string ((rd_T53 l1 x11_1).f3.f0)) ∧ w'.cell? ⟨(ad341.add ((x11_1).toNat * 17)).block, (ad341.add ((x11_1).toNat * 17)).off + 4, none⟩ = some (.string ((rd_T53 l1 x11_1).f3.f1)) ∧ w'.cell? ⟨(ad341.add ((x11_1).toNat * 17)).block, (ad341.add ((x11_1).toNat * 17)).off + 5, none⟩ = some (.string ((rd_T53 l1 x11_1).f3.f2)) ∧ w'.cell? ⟨(ad341.add ((x11_1).toNat * 17)).block, (ad341.add ((x11_1).toNat * 17)).off + 6, none⟩ = some (.string ((rd_T53 l1 x11_1).f3.f3)) ∧ w'.cell? ⟨(ad341.add ((x11_1).toNat * 17)).block, (ad341.add ((x11_1).toNat * 17)).off + 7, none⟩ = some (.int .i64 ((rd_T53 l1 x11_1).f3.f4)) ∧ w'.cell? ⟨(ad341.add ((x11_1).toNat * 17)).block, (ad341.add ((x11_1).toNat * 17)).off + 8, none⟩ = some (.int .i64 ((rd_T53 l1 x11_1).f3.f5)) ∧ w'.cell? ⟨(ad341.add ((x11_1).toNat * 17)).block, (ad341.add ((x11_1).toNat * 17)).off + 9, none⟩ = some (.int .i64 ((rd_T53 l1 x11_1).f3.f6)) ∧ w'.cell? ⟨(ad341.add ((x11_1).toNat * 17)).block, (ad341.add ((x11_1).toNat * 17)).off + 10, none⟩ = some (.slice A341_10 ((rd_T53 l1 x11_1).f3.f7).length c341_10) ∧ w'.cell? ⟨(ad341.add ((x11_1).toNat * 17)).block, (ad341.add ((x11_1).toNat * 17)).off + 11, none⟩ = some (.int .u8 ((rd_T53 l1 x11_1).f4)) ∧ w'.cell? ⟨(ad341.add ((x11_1).toNat * 17)).block, (ad341.add ((x11_1).toNat * 17)).off + 12, none⟩ = some (.int .i64 ((rd_T53 l1 x11_1).f5)) ∧ w'.cell? ⟨(ad341.add ((x11_1).toNat * 17)).block, (ad341.add ((x11_1).toNat * 17)).off + 13, none⟩ = some (.int .i64 ((rd_T53 l1 x11_1).f6)) ∧ w'.cell? ⟨(ad341.add ((x11_1).toNat * 17)).block, (ad341.add ((x11_1).toNat * 17)).off + 14, none⟩ = some (.int .i64 ((rd_T53 l1 x11_1).f7)) ∧ w'.cell? ⟨(ad341.add ((x11_1).toNat * 17)).block, (ad341.add ((x11_1).toNat * 17)).off + 15, none⟩ = some (.int .u32 ((rd_T53 l1 x11_1).f8)) ∧ w'.cell? ⟨(ad341.add ((x11_1).toNat * 17)).block, (ad341.add ((x11_1).toNat * 17)).off + 16, none⟩ = some (.int .i64 ((rd_T53 l1 x11_1).f9))) (ds := []) (lk 14 0) (by kernel_rfl) rfl rfl ⟨(blk_cell BK337.out 0).trans rfl, (blk_cell BK337.out 1).trans rfl, (blk_cell BK337.out 2).trans rfl, (blk_cell BK337.out 3).trans rfl, (blk_cell BK337.out 4).trans rfl, ((HB.out.cell (World.block_lt_of_cell? w _ hw341_0)).trans hw341_0), ((HB.out.cell (World.block_lt_of_cell? w _ hw341_1)).trans hw341_1), ((HB.out.cell (World.block_lt_of_cell? w _ hw341_2)).trans hw341_2), ((HB.out.cell (World.block_lt_of_cell? w _ hw341_3)).trans hw341_3), ((HB.out.cell (World.block_lt_of_cell? w _ hw341_4)).trans hw341_4), ((HB.out.cell (World.block_lt_of_cell? w _ hw341_5)).trans hw341_5), ((HB.out.cell (World.block_lt_of_cell? w _ hw341_6)).trans hw341_6), ((HB.out.cell (World.block_lt_of_cell? w _ hw341_7)).trans hw341_7), ((HB.out.cell (World.block_lt_of_cell? w _ hw341_8)).trans hw341_8), ((HB.out.cell (World.block_lt_of_cell? w _ hw341_9)).trans hw341_9), ((HB.out.cell (World.block_lt_of_cell? w _ hw341_10)).trans hw341_10), ((HB.out.cell (World.block_lt_of_cell? w _ hw341_11)).trans hw341_11), ((HB.out.cell (World.block_lt_of_cell? w _ hw341_12)).trans hw341_12), ((HB.out.cell (World.block_lt_of_cell? w _ hw341_13)).trans hw341_13), ((HB.out.cell (World.block_lt_of_cell? w _ hw341_14)).trans hw341_14), ((HB.out.cell (World.block_lt_of_cell? w _ hw341_15)).trans hw341_15), ((HB.out.cell (World.block_lt_of_cell? w _ hw341_16)).trans hw341_16)⟩ (fun hHeld => ?_); refine with_tabW musterref15_Cores.tab10 musterref15_Cores.bits10 (fun HT_ HW_ => ?_)
                generalize wr.drew = w25 at BK337 HB HR341_10 hx341_0 hx341_1 hx341_10 hx341_11 hx341_12 hx341_13 hx341_14 hx341_15 hx341_16 hx341_2 hx341_3 hx341_4 hx341_5 hx341_6 hx341_7 hx341_8 hx341_9 hHeld ⊢
                refine pu (i := 0) (N := some 33) (lk 14 1) ?_
                refine pu (i := 2) (N := some 35) (lk 14 5) ?_
                refine pu (i := 3) (N := some 36) (lk 14 13) ?_
                refine pu (i := 4) (N := some 37) (lk 14 29) ?_
                refine pu (i := 5) (N := some 38) (lk 14 61) ?_
                refine pu (i := 6) (N := some 39) (lk 14 125) ?_
                refine take_ (i := 1) (N := some 34) (v := ?_) (a' := ?_) (lk 14 127) rfl rfl (take_ofW HT_.out HW_.out (by kernel_rfl)) (fun _ _ _ h => h) (Or.inl ⟨by rfl, ?_⟩) hHeld ?_ ?_
                rotate_left
                · rintro w' ⟨s0, s1, s2, s3, s4, s5, s6, s7, s8, s9, s10, s11, s12, s13, s14, s15, s16, s17, s18, s19, s20, s21⟩
                  go_simp
                  with_reducible rfl
                rotate_left
                · simp only [Act.put, List.setIfInBounds_toArray, List.set_cons_zero, List.set_cons_succ, i64_w, i32_w]
                  rfl
                refine take_ (i := 7) (N := some 40) (v := ?_) (a' := ?_) (lk 14 255) rfl rfl (take_ofW HT_.out HW_.out (by kernel_rfl)) (fun _ _ _ h => h) (Or.inl ⟨by rfl, ?_⟩) hHeld ?_ ?_
                rotate_left
                · rintro w' ⟨s0, s1, s2, s3, s4, s5, s6, s7, s8, s9, s10, s11, s12, s13, s14, s15, s16, s17, s18, s19, s20, s21⟩
                  go_simp
                  with_reducible rfl
                rotate_left
                · simp only [Act.put, List.setIfInBounds_toArray, List.set_cons_zero, List.set_cons_succ, i64_w, i32_w]
                  rfl
                refine on1 (i := 8) (N := some 41) (lk 14 511) (fun K hK => ?_)
                refine goes_ Try.func31 (by kernel_rfl) rfl #[.slice A0_2 l0_2.length c0_2, .string ((rd_T53 l1 x11_1).f3.f1)] (by rfl) rfl rfl (by (try simp only [List.map_toArray, List.map_cons, List.map_nil]); first | done | rfl | (simp only [List.length_drop, List.length_take]; rfl)) ?_
                with_reducible refine (musterref14_Path.calls k1 _ _ l0_2 ((rd_T53 l1 x11_1).f3.f1) t342 t343 _ ?side1 ?side2 A14.out).mono ?_
                (case side1 => repeat (first | exact (Kd.C_below HR0_2.out HB.out) | (with_reducible refine Kd.C_alloc ?_ _) | (with_reducible refine Kd.C_drewN ?_ _) | (with_reducible refine Kd.C_drew ?_)))
                (case side2 => exact HC0_2.out)
                rintro e w26 ⟨v344, rfl, ho0, hb⟩
                refine ⟨_, rfl, ?_⟩
                have n0_ := Aside0.mk (Kd.R_lower ho0 (below_size (by repeat (first | (with_reducible first | exact HB.out | apply below_alloc | apply pw_below_drewN | apply below_drew1 | refine below_set ?_ GE337.out) | exact HB.out))))
                have n1_ := Aside0.mk (blk_below (g := gb337) (o := .cells #[.slice A0_0 l0_0.length c0_0, .slice A0_1 l0_1.length c0_1, .slice A0_2 l0_2.length c0_2, .slice A0_3 l0_3.length c0_3, .int .u8 a0_4] 28 (0, 0)) (by (with_reducible repeat (first | refine blk_drewN ?_ _ | refine blk_drew ?_ | refine blk_alloc ?_ _)); exact BK337.out) hb)
                have n2_ := Aside0.mk (below_step (by repeat (first | (with_reducible first | exact HB.out | apply below_alloc | apply pw_below_drewN | apply below_drew1 | refine below_set ?_ GE337.out) | exact HB.out)) hb)
                clear BK337
                clear HB
                have HO345 := n0_
                have BK337 := n1_
                have HB := n2_
                clear n0_ n1_ n2_
                (try clear hb)
                (try clear hb2)
                (try clear hk)
                (try clear hi)
                (try clear ho0)
                refine hK.out _ _ ⟨(blk_cell BK337.out 0).trans rfl, (blk_cell BK337.out 1).trans rfl, (blk_cell BK337.out 2).trans rfl, (blk_cell BK337.out 3).trans rfl, (blk_cell BK337.out 4).trans rfl, ((HB.out.cell (World.block_lt_of_cell? w _ hw341_0)).trans hw341_0), ((HB.out.cell (World.block_lt_of_cell? w _ hw341_1)).trans hw341_1), ((HB.out.cell (World.block_lt_of_cell? w _ hw341_2)).trans hw341_2), ((HB.out.cell (World.block_lt_of_cell? w _ hw341_3)).trans hw341_3), ((HB.out.cell (World.block_lt_of_cell? w _ hw341_4)).trans hw341_4), ((HB.out.cell (World.block_lt_of_cell? w _ hw341_5)).trans hw341_5), ((HB.out.cell (World.block_lt_of_cell? w _ hw341_6)).trans hw341_6), ((HB.out.cell (World.block_lt_of_cell? w _ hw341_7)).trans hw341_7), ((HB.out.cell (World.block_lt_of_cell? w _ hw341_8)).trans hw341_8), ((HB.out.cell (World.block_lt_of_cell? w _ hw341_9)).trans hw341_9), ((HB.out.cell (World.block_lt_of_cell? w _ hw341_10)).trans hw341_10), ((HB.out.cell (World.block_lt_of_cell? w _ hw341_11)).trans hw341_11), ((HB.out.cell (World.block_lt_of_cell? w _ hw341_12)).trans hw341_12), ((HB.out.cell (World.block_lt_of_cell? w _ hw341_13)).trans hw341_13), ((HB.out.cell (World.block_lt_of_cell? w _ hw341_14)).trans hw341_14), ((HB.out.cell (World.block_lt_of_cell? w _ hw341_15)).trans hw341_15), ((HB.out.cell (World.block_lt_of_cell? w _ hw341_16)).trans hw341_16)⟩ (fun hHeld => ?_)
                clear hK K
                refine nm (some 41) ?_
                refine pu (i := 9) (N := some 32) (lk 14 1023) ?_
                refine pu (i := 10) (N := some 42) (lk 14 2047) ?_
                refine pu (i := 11) (N := some 43) (lk 14 4095) ?_
                refine pu (i := 12) (N := some 12) (lk 14 8191) ?_
                refine pu (i := 13) (N := some 13) (lk 14 16383) ?_
                refine done_ (done_of HT_.out (by kernel_rfl)) ?_
                have p346 : 0 ≤ (x11_1 : Int) := of_decide_eq_true (by first | (with_reducible assumption) | assumption)
                have q346 : x11_1 < (l1.length : Int) := of_decide_eq_true (by first | (with_reducible assumption) | assumption)
                obtain ⟨ad346, A346_10, c346_10, e346, hx346_0, hx346_1, hx346_2, hx346_3, hx346_4, hx346_5, hx346_6, hx346_7, hx346_8, hx346_9, hx346_10, hx346_11, hx346_12, hx346_13, hx346_14, hx346_15, hx346_16, hl346_10, hi346_10⟩ := at_T53 HR1.out x11_1 p346 q346
                obtain rfl : ad341 = ad346 := (by injection e346)
                replace hx346_0 := (HB.out.cell (World.block_lt_of_cell? w _ hx346_0)).trans hx346_0
                replace hx346_1 := (HB.out.cell (World.block_lt_of_cell? w _ hx346_1)).trans hx346_1
                replace hx346_2 := (HB.out.cell (World.block_lt_of_cell? w _ hx346_2)).trans hx346_2
                replace hx346_3 := (HB.out.cell (World.block_lt_of_cell? w _ hx346_3)).trans hx346_3
                replace hx346_4 := (HB.out.cell (World.block_lt_of_cell? w _ hx346_4)).trans hx346_4
                replace hx346_5 := (HB.out.cell (World.block_lt_of_cell? w _ hx346_5)).trans hx346_5
                replace hx346_6 := (HB.out.cell (World.block_lt_of_cell? w _ hx346_6)).trans hx346_6
                replace hx346_7 := (HB.out.cell (World.block_lt_of_cell? w _ hx346_7)).trans hx346_7
                replace hx346_8 := (HB.out.cell (World.block_lt_of_cell? w _ hx346_8)).trans hx346_8
                replace hx346_9 := (HB.out.cell (World.block_lt_of_cell? w _ hx346_9)).trans hx346_9
                replace hx346_10 := (HB.out.cell (World.block_lt_of_cell? w _ hx346_10)).trans hx346_10
                replace hx346_11 := (HB.out.cell (World.block_lt_of_cell? w _ hx346_11)).trans hx346_11
                replace hx346_12 := (HB.out.cell (World.block_lt_of_cell? w _ hx346_12)).trans hx346_12
                replace hx346_13 := (HB.out.cell (World.block_lt_of_cell? w _ hx346_13)).trans hx346_13
                replace hx346_14 := (HB.out.cell (World.block_lt_of_cell? w _ hx346_14)).trans hx346_14
                replace hx346_15 := (HB.out.cell (World.block_lt_of_cell? w _ hx346_15)).trans hx346_15
                replace hx346_16 := (HB.out.cell (World.block_lt_of_cell? w _ hx346_16)).trans hx346_16
                have HR346_10 := Aside0.mk hi346_10
                have HC346_10 := Aside0.mk hl346_10
                clear hi346_10 hl346_10
                replace p346 := eq_true p346
                replace q346 := eq_true q346
                try go_wp2
                go_roundg k1
                case measure => have := HK1.out; omega
                case rel => exact ⟨(x10_1), (wrap64 (x11_1 + 1)), (by first | rfl | (simp; done) | (simp [*]; done)), (by first | rfl | (simp; done) | (simp [*]; done)), H', ⟨by have := HK1.out; omega⟩, ⟨by (with_reducible repeat (first | refine blk_drewN ?_ _ | refine blk_drew ?_ | refine blk_alloc ?_ _)); exact BK337.out⟩, ⟨by repeat (first | (with_reducible first | exact HB.out | apply below_alloc | apply pw_below_drewN | apply below_drew1 | refine below_set ?_ GE337.out) | exact HB.out)⟩⟩
            · rw [if_neg c13] at H
              exact absurd H (by simp)
          · rw [if_neg c12] at H
            have c12b0 : decide (x11_1 < (l1.length : Int)) = false := decide_eq_false c12
            clear c12
            simp only [Option.some.injEq, Prod.mk.injEq] at H
            obtain ⟨rfl, rfl⟩ := H
            go_wp2
            go_ret2
            exact ⟨by first | rfl | (simp [errW_none, errW_some] <;> rfl) | (simp [*, errW_none, errW_some] <;> rfl), by repeat (first | (with_reducible first | exact HB.out | apply below_alloc | apply pw_below_drewN | apply below_drew1 | refine below_set ?_ GE337.out) | exact HB.out)⟩
    · replace c7 := Bool.eq_false_iff.mpr c7
      subst c7
      have H1 : (some (0, 141)) = some (r1, r2) := by rw [if_neg (show ¬ (false = true) by decide)] at H; exact H
      clear H
      have H := H1
      clear H1
      simp only [Option.some.injEq, Prod.mk.injEq] at H
      obtain ⟨rfl, rfl⟩ := H
      go_enter Try.func12, Try.ntmps12
      go_wp2_with (first | ((with_reducible refine gate_dst (N := 3) rfl ?_); refine box_event ?hg (N := 3) ?hd (cs := #[.slice A0_0 l0_0.length c0_0, .slice A0_1 l0_1.length c0_1, .slice A0_2 l0_2.length c0_2, .slice A0_3 l0_3.length c0_3, .int .u8 a0_4]) (t := 28) ?hr ?_; (case hd => rfl); (case hg => rfl); (case hr => first | (go_simp; done) | (go_simp; rfl)); intro gb337 hg w27 hbox hb; have n0_ := Aside0.mk (below_step (by repeat (first | (with_reducible first | exact HB.out | apply below_alloc | apply pw_below_drewN | apply below_drew1) | exact HB.out)) hb); have n1_ := Aside0.mk (hbox); have n2_ := Aside0.mk ((by rw [hg]; exact (below_size (by repeat (first | (with_reducible first | exact HB.out | apply below_alloc | apply pw_below_drewN | apply below_drew1) | exact HB.out))) : w.heap.size ≤ gb337)); have n3_ := Aside0.mk ((by rw [hg]; exact (below_size (by repeat (first | (with_reducible first | exact HB.out | apply below_alloc | apply pw_below_drewN | apply below_drew1) | exact HB.out))) : w.heap.size ≤ gb337)); clear HB; have HB := n0_; have BK337 := n1_; have GW337 := n2_; have GE337 := n3_; clear n0_ n1_ n2_ n3_; clear hb hbox hg; have hcz28_0 : w27.cell? ⟨gb337, 0, none⟩ = some (.slice A0_0 l0_0.length c0_0) := (blk_cell BK337.out 0).trans rfl; have hcz28_1 : w27.cell? ⟨gb337, 1, none⟩ = some (.slice A0_1 l0_1.length c0_1) := (blk_cell BK337.out 1).trans rfl; have hcz28_2 : w27.cell? ⟨gb337, 2, none⟩ = some (.slice A0_2 l0_2.length c0_2) := (blk_cell BK337.out 2).trans rfl; have hcz28_3 : w27.cell? ⟨gb337, 3, none⟩ = some (.slice A0_3 l0_3.length c0_3) := (blk_cell BK337.out 3).trans rfl; have hcz28_4 : w27.cell? ⟨gb337, 4, none⟩ = some (.int .u8 a0_4) := (blk_cell BK337.out 4).trans rfl; have hfz28_0 := blk_frozen BK337.out 0; have hfz28_1 := blk_frozen BK337.out 1; have hfz28_2 := blk_frozen BK337.out 2; have hfz28_3 := blk_frozen BK337.out 3; have hfz28_4 := blk_frozen BK337.out 4) | ((with_reducible refine gate_callee (f := 16) rfl ?_); refine goesL_ (some 15) rfl rfl Try.func16 (by kernel_rfl) rfl #[.agg #[.slice A0_0 l0_0.length c0_0, .slice A0_1 l0_1.length c0_1, .slice A0_2 l0_2.length c0_2, .slice A0_3 l0_3.length c0_3, .int .u8 a0_4]] rfl (by (try simp only [List.map_toArray, List.map_cons, List.map_nil]); first | done | rfl | (simp only [List.length_drop, List.length_take]; rfl)) ?_; (with_reducible refine (musterref15_Right.calls _ _ l0_0 _ _ l0_1 _ _ l0_2 _ _ l0_3 a0_4 true _ ?side1 ?side2 ?side3 ?side4 ?side5 ?side6 ?side7 ?side8 A4.out).mono ?_); (case side1 => repeat (first | exact (Kd.C_below HR0_0.out HB.out) | (with_reducible refine Kd.C_alloc ?_ _) | (with_reducible refine Kd.C_drewN ?_ _) | (with_reducible refine Kd.C_drew ?_))); (case side2 => exact HC0_0.out); (case side3 => repeat (first | exact (Kd.C_below HR0_1.out HB.out) | (with_reducible refine Kd.C_alloc ?_ _) | (with_reducible refine Kd.C_drewN ?_ _) | (with_reducible refine Kd.C_drew ?_))); (case side4 => exact HC0_1.out); (case side5 => repeat (first | exact (Kd.C_below HR0_2.out HB.out) | (with_reducible refine Kd.C_alloc ?_ _) | (with_reducible refine Kd.C_drewN ?_ _) | (with_reducible refine Kd.C_drew ?_))); (case side6 => exact HC0_2.out); (case side7 => repeat (first | exact (Kd.C_below HR0_3.out HB.out) | (with_reducible refine Kd.C_alloc ?_ _) | (with_reducible refine Kd.C_drewN ?_ _) | (with_reducible refine Kd.C_drew ?_))); (case side8 => exact HC0_3.out); rintro e w29 ⟨rfl, hb⟩; refine ⟨_, rfl, ?_⟩; have n0_ := Aside0.mk (blk_below (g := gb337) (o := .cells #[.slice A0_0 l0_0.length c0_0, .slice A0_1 l0_1.length c0_1, .slice A0_2 l0_2.length c0_2, .slice A0_3 l0_3.length c0_3, .int .u8 a0_4] 28 (0, 0)) (by (with_reducible repeat (first | refine blk_drewN ?_ _ | refine blk_drew ?_ | refine blk_alloc ?_ _)); exact BK337.out) hb); have n1_ := Aside0.mk (below_step (by repeat (first | (with_reducible first | exact HB.out | apply below_alloc | apply pw_below_drewN | apply below_drew1 | refine below_set ?_ GE337.out) | exact HB.out)) hb); clear BK337; clear HB; have BK337 := n0_; have HB := n1_; clear n0_ n1_; (try clear hb); (try clear hb2); (try clear hk); (try clear hi); have hcz30_0 : w29.cell? ⟨gb337, 0, none⟩ = some (.slice A0_0 l0_0.length c0_0) := (blk_cell BK337.out 0).trans rfl; have hcz30_1 : w29.cell? ⟨gb337, 1, none⟩ = some (.slice A0_1 l0_1.length c0_1) := (blk_cell BK337.out 1).trans rfl; have hcz30_2 : w29.cell? ⟨gb337, 2, none⟩ = some (.slice A0_2 l0_2.length c0_2) := (blk_cell BK337.out 2).trans rfl; have hcz30_3 : w29.cell? ⟨gb337, 3, none⟩ = some (.slice A0_3 l0_3.length c0_3) := (blk_cell BK337.out 3).trans rfl; have hcz30_4 : w29.cell? ⟨gb337, 4, none⟩ = some (.int .u8 a0_4) := (blk_cell BK337.out 4).trans rfl; have hfz30_0 := blk_frozen BK337.out 0; have hfz30_1 := blk_frozen BK337.out 1; have hfz30_2 := blk_frozen BK337.out 2; have hfz30_3 := blk_frozen BK337.out 3; have hfz30_4 := blk_frozen BK337.out 4) | ((with_reducible refine gate_callee (f := 30) rfl ?_); refine goesL_ (some 21) rfl rfl Try.func30 (by kernel_rfl) rfl #[.slice A0_2 l0_2.length c0_2, .string a2] rfl (by (try simp only [List.map_toArray, List.map_cons, List.map_nil]); first | done | rfl | (simp only [List.length_drop, List.length_take]; rfl)) ?_; (with_reducible refine (musterref14_Find.calls k _ _ l0_2 a2 t339 false _ ?side1 ?side2 A6.out).mono ?_); (case side1 => repeat (first | exact (Kd.C_below HR0_2.out HB.out) | (with_reducible refine Kd.C_alloc ?_ _) | (with_reducible refine Kd.C_drewN ?_ _) | (with_reducible refine Kd.C_drew ?_))); (case side2 => exact HC0_2.out); rintro e w' ⟨rfl, ⟨nd, rfl⟩⟩; refine ⟨_, rfl, ?_⟩))
      go_ret2
      exact ⟨by first | rfl | (simp [errW_none, errW_some] <;> rfl) | (simp [*, errW_none, errW_some] <;> rfl), by repeat (first | (with_reducible first | exact HB.out | apply below_alloc | apply pw_below_drewN | apply below_drew1 | refine below_set ?_ GE337.out) | exact HB.out)⟩
  · replace c5 := Bool.eq_false_iff.mpr c5
    subst c5
    have H1 : (some (0, 2)) = some (r1, r2) := by rw [if_neg (show ¬ (false = true) by decide)] at H; exact H
    clear H
    have H := H1
    clear H1
    simp only [Option.some.injEq, Prod.mk.injEq] at H
    obtain ⟨rfl, rfl⟩ := H
    go_enter Try.func12, Try.ntmps12
    go_wp2_with (first | ((with_reducible refine gate_dst (N := 3) rfl ?_); refine box_event ?hg (N := 3) ?hd (cs := #[.slice A0_0 l0_0.length c0_0, .slice A0_1 l0_1.length c0_1, .slice A0_2 l0_2.length c0_2, .slice A0_3 l0_3.length c0_3, .int .u8 a0_4]) (t := 28) ?hr ?_; (case hd => rfl); (case hg => rfl); (case hr => first | (go_simp; done) | (go_simp; rfl)); intro gb337 hg w31 hbox hb; have n0_ := Aside0.mk (below_step (by repeat (first | (with_reducible first | exact HB.out | apply below_alloc | apply pw_below_drewN | apply below_drew1) | exact HB.out)) hb); have n1_ := Aside0.mk (hbox); have n2_ := Aside0.mk ((by rw [hg]; exact (below_size (by repeat (first | (with_reducible first | exact HB.out | apply below_alloc | apply pw_below_drewN | apply below_drew1) | exact HB.out))) : w.heap.size ≤ gb337)); have n3_ := Aside0.mk ((by rw [hg]; exact (below_size (by repeat (first | (with_reducible first | exact HB.out | apply below_alloc | apply pw_below_drewN | apply below_drew1) | exact HB.out))) : w.heap.size ≤ gb337)); clear HB; have HB := n0_; have BK337 := n1_; have GW337 := n2_; have GE337 := n3_; clear n0_ n1_ n2_ n3_; clear hb hbox hg; have hcz32_0 : w31.cell? ⟨gb337, 0, none⟩ = some (.slice A0_0 l0_0.length c0_0) := (blk_cell BK337.out 0).trans rfl; have hcz32_1 : w31.cell? ⟨gb337, 1, none⟩ = some (.slice A0_1 l0_1.length c0_1) := (blk_cell BK337.out 1).trans rfl; have hcz32_2 : w31.cell? ⟨gb337, 2, none⟩ = some (.slice A0_2 l0_2.length c0_2) := (blk_cell BK337.out 2).trans rfl; have hcz32_3 : w31.cell? ⟨gb337, 3, none⟩ = some (.slice A0_3 l0_3.length c0_3) := (blk_cell BK337.out 3).trans rfl; have hcz32_4 : w31.cell? ⟨gb337, 4, none⟩ = some (.int .u8 a0_4) := (blk_cell BK337.out 4).trans rfl; have hfz32_0 := blk_frozen BK337.out 0; have hfz32_1 := blk_frozen BK337.out 1; have hfz32_2 := blk_frozen BK337.out 2; have hfz32_3 := blk_frozen BK337.out 3; have hfz32_4 := blk_frozen BK337.out 4) | ((with_reducible refine gate_callee (f := 16) rfl ?_); refine goesL_ (some 15) rfl rfl Try.func16 (by kernel_rfl) rfl #[.agg #[.slice A0_0 l0_0.length c0_0, .slice A0_1 l0_1.length c0_1, .slice A0_2 l0_2.length c0_2, .slice A0_3 l0_3.length c0_3, .int .u8 a0_4]] rfl (by (try simp only [List.map_toArray, List.map_cons, List.map_nil]); first | done | rfl | (simp only [List.length_drop, List.length_take]; rfl)) ?_; (with_reducible refine (musterref15_Right.calls _ _ l0_0 _ _ l0_1 _ _ l0_2 _ _ l0_3 a0_4 false _ ?side1 ?side2 ?side3 ?side4 ?side5 ?side6 ?side7 ?side8 A4.out).mono ?_); (case side1 => repeat (first | exact (Kd.C_below HR0_0.out HB.out) | (with_reducible refine Kd.C_alloc ?_ _) | (with_reducible refine Kd.C_drewN ?_ _) | (with_reducible refine Kd.C_drew ?_))); (case side2 => exact HC0_0.out); (case side3 => repeat (first | exact (Kd.C_below HR0_1.out HB.out) | (with_reducible refine Kd.C_alloc ?_ _) | (with_reducible refine Kd.C_drewN ?_ _) | (with_reducible refine Kd.C_drew ?_))); (case side4 => exact HC0_1.out); (case side5 => repeat (first | exact (Kd.C_below HR0_2.out HB.out) | (with_reducible refine Kd.C_alloc ?_ _) | (with_reducible refine Kd.C_drewN ?_ _) | (with_reducible refine Kd.C_drew ?_))); (case side6 => exact HC0_2.out); (case side7 => repeat (first | exact (Kd.C_below HR0_3.out HB.out) | (with_reducible refine Kd.C_alloc ?_ _) | (with_reducible refine Kd.C_drewN ?_ _) | (with_reducible refine Kd.C_drew ?_))); (case side8 => exact HC0_3.out); rintro e w33 ⟨rfl, hb⟩; refine ⟨_, rfl, ?_⟩; have n0_ := Aside0.mk (blk_below (g := gb337) (o := .cells #[.slice A0_0 l0_0.length c0_0, .slice A0_1 l0_1.length c0_1, .slice A0_2 l0_2.length c0_2, .slice A0_3 l0_3.length c0_3, .int .u8 a0_4] 28 (0, 0)) (by (with_reducible repeat (first | refine blk_drewN ?_ _ | refine blk_drew ?_ | refine blk_alloc ?_ _)); exact BK337.out) hb); have n1_ := Aside0.mk (below_step (by repeat (first | (with_reducible first | exact HB.out | apply below_alloc | apply pw_below_drewN | apply below_drew1 | refine below_set ?_ GE337.out) | exact HB.out)) hb); clear BK337; clear HB; have BK337 := n0_; have HB := n1_; clear n0_ n1_; (try clear hb); (try clear hb2); (try clear hk); (try clear hi)))
    go_ret2
    exact ⟨by first | rfl | (simp [errW_none, errW_some] <;> rfl) | (simp [*, errW_none, errW_some] <;> rfl), by repeat (first | (with_reducible first | exact HB.out | apply below_alloc | apply pw_below_drewN | apply below_drew1 | refine below_set ?_ GE337.out) | exact HB.out)⟩

end Go.Proofs.Ytcnobkcddgcifaa.PT
/- The document's Path and Cores, in plain Lean. (A part of the print PT.) -/
set_option linter.unusedVariables false
set_option linter.unusedSimpArgs false
namespace Go.Proofs.Ytcnobkcddgcifaa.PT
open Go.RowKit Go.Proofs.YtcnobkcddgcifaaW.PrintWords Go.Proofs.YtcnobkcddgcifaaW.PrintLast Go.Proofs.YtcnobkcddgcifaaW.PrintMore Go.Proofs.Ytcnobkcddgcifaa.Gen Go.Proofs.Ytcnobkcddgcifaa.EvK
/-- What the model can hold of names. -/
def Small (l : List S57) : Prop := l.length ≤ 1000000000000 ∧ ∀ x ∈ l, x.f0.size < 9000000000000000000
theorem right_f {l : List S57} (hs : Small l) : musterref14_Right.f l = some (rightA l) := by
  unfold musterref14_Right.f
  rw [if_pos ⟨by have := hs.1; omega, List.all_eq_true.2 (fun x hx => decide_eq_true (hs.2 x hx))⟩]
theorem rpath_l0 {l : List S57} (T : TreeOK l) (hll : l.length ≤ 16) : ∀ n i, i < n → ∀ hi : i < l.length, ∀ acc : List ByteArray, acc.length + i < 8796093022208 → Ev (fun k => musterref14_Path.l0 k l (i : Int) acc) (acc ++ restA l i i, 0)
  | 0, i, h, hi, acc, ha => by omega
  | n + 1, i, h, hi, acc, ha => by
    refine Ev.stp (fun k => by rw [musterref14_Path.l0]) (Ev.pos (by omega) (Ev.pos (by omega) ?_))
    rw [rdA l i hi]
    by_cases he : l[i].f1.toList = []
    · refine Ev.pos he ?_
      rw [rest_top _ hi he, List.append_nil]
      exact Ev.one rfl
    · obtain ⟨p, hp, h1, h2, h3⟩ := par_lt T hi he
      refine Ev.neg he (Ev.bnd (refFind_ev l l[i].f1 (by omega)) ?_)
      rw [h2]
      refine Ev.pos (by simp only; omega) (Ev.pos (by simp only; omega) (Ev.pos (by omega) ?_))
      simp only
      rw [rdA l p hp, rest_step T hi hp h1 he h2, ups_eq hp, show acc ++ l[p].f0 :: restA l p p = acc ++ [l[p].f0] ++ restA l p p by simp]
      exact rpath_l0 T hll n p (by omega) hp (acc ++ [l[p].f0]) (by rw [List.length_append, List.length_singleton]; omega)
theorem rpath_ev {l : List S57} (hs : Small l) (s : ByteArray) : Ev (fun k => musterref14_Path.f k l s) (pathA l s) := by
  unfold musterref14_Path.f pathA
  refine Ev.bnd (Ev.const (right_f hs)) ?_
  by_cases hr : rightA l = true
  · obtain ⟨T, _, hl⟩ := (right_iff l).1 hr
    rw [hr, if_pos rfl]
    refine Ev.pos rfl (Ev.bnd (refFind_ev l s (by omega)) ?_)
    cases hf : (findA l s).2 with
    | true =>
      obtain ⟨p, hp, he, hn⟩ := found_at hf
      rw [if_pos rfl, he, Int.toNat_natCast, ups_eq hp, hn]
      exact Ev.pos rfl (rpath_l0 T hl (p + 1) p (by omega) hp [s] (by simp; omega))
    | false =>
      rw [if_neg (by decide)]
      exact Ev.neg (by decide) (Ev.one rfl)
  · rw [if_neg hr]
    exact Ev.neg hr (Ev.one rfl)
theorem in_l0 (L : List ByteArray) (s : ByteArray) (hL : L.length < 9000000000000000000) : ∀ d j, L.length - j = d → j ≤ L.length → Ev (fun k => musterref14_In.l0 k L s (j : Int)) ((L.drop j).any (fun x => x.toList == s.toList))
  | 0, j, hd, hj => Ev.stp (fun k => by rw [musterref14_In.l0]) (Ev.neg (by omega) (Ev.one (by rw [List.drop_of_length_le (by omega)]; rfl)))
  | d + 1, j, hd, hj => by
    have hlt : j < L.length := by omega
    rw [drop_any L _ j hlt]
    refine Ev.stp (fun k => by rw [musterref14_In.l0]) (Ev.pos (by omega) (Ev.pos (by omega) ?_))
    rw [rdB L j hlt]
    by_cases h : L[j].toList = s.toList
    · exact Ev.pos h (Ev.one (by simp [h]))
    · rw [wr1 (by omega), show (L[j].toList == s.toList) = false from beq_eq_false_iff_ne.2 h, Bool.false_or]
      exact Ev.neg h (in_l0 L s hL d (j + 1) (by omega) (by omega))
theorem in_ev (L : List ByteArray) (s : ByteArray) (hL : L.length < 9000000000000000000) : Ev (fun k => musterref14_In.f k L s) (hasB L s) := in_l0 L s hL _ 0 rfl (by omega)
theorem path_cases (l : List S57) (s : ByteArray) : (∃ i, ∃ hi : i < l.length, rightA l = true ∧ l[i].f0 = s ∧ pathA l s = (upsA l i, 0) ∧ belowA l s = (belA l s l.length, 0)) ∨ ((pathA l s).2 ≠ 0 ∧ (belowA l s).2 ≠ 0) := by
  unfold pathA belowA
  by_cases hr : rightA l = true
  · cases hf : (findA l s).2 with
    | true =>
      obtain ⟨p, hp, he, h⟩ := found_at hf
      exact Or.inl ⟨p, hp, hr, h, by rw [if_pos hr, if_pos rfl, he, Int.toNat_natCast], by rw [if_pos hr, if_pos rfl]⟩
    | false => exact Or.inr ⟨by rw [if_pos hr, if_neg (by decide)]; decide, by rw [if_pos hr, if_neg (by decide)]; decide⟩
  · exact Or.inr ⟨by rw [if_neg hr]; decide, by rw [if_neg hr]; decide⟩
/-- An account stands on a path exactly if the path's begins below it. -/
theorem path_below {ac : List S57} (a s : ByteArray) (hf : (findA ac a).2 = true) (hr : rightA ac = true) : hasB (pathA ac s).1 a = hasB (belowA ac a).1 s := by
  obtain ⟨T, _, hl⟩ := (right_iff ac).1 hr
  have hb : belowA ac a = (belA ac a ac.length, 0) := by unfold belowA; rw [if_pos hr, hf, if_pos rfl]
  rw [hb]
  rcases path_cases ac s with ⟨i, hi, _, ha, hp, _⟩ | ⟨h1, _⟩
  · rw [hp, Bool.eq_iff_iff, hasB_iff, hasB_iff, belA_mem ac a s _ (Nat.le_refl _)]
    constructor
    · intro h
      exact ⟨i, hi, hi, (hasB_iff _ _).2 h, ha⟩
    · rintro ⟨m, hm, _, h3, h4⟩
      obtain rfl := tree_apart T hm hi (h4.trans ha.symm)
      exact (hasB_iff _ _).1 h3
  · have hn : (findA ac s).2 = false := by
      cases h : (findA ac s).2 with
      | false => rfl
      | true => exact absurd (by unfold pathA; rw [if_pos hr, h, if_pos rfl]) h1
    have hp : pathA ac s = ([], 141) := by unfold pathA; rw [if_pos hr, hn, if_neg (by decide)]
    rw [hp]
    symm
    cases h : hasB (belA ac a ac.length) s with
    | false => rfl
    | true =>
      obtain ⟨m, hm, _, _, h4⟩ := (belA_mem ac a s _ (Nat.le_refl _)).1 ((hasB_iff _ _).1 h)
      rw [find_self T hm h4] at hn
      cases hn
theorem pathA_len (ac : List S57) (s : ByteArray) (hr : rightA ac = true) : (pathA ac s).1.length < 9000000000000000000 := by
  obtain ⟨T, _, hl⟩ := (right_iff ac).1 hr
  rcases path_cases ac s with ⟨i, hi, _, _, hp, _⟩ | ⟨h1, _⟩
  · rw [hp]
    have := ups_len T hi
    show (upsA ac i).length < _
    omega
  · unfold pathA at h1 ⊢
    rw [if_pos hr] at h1 ⊢
    by_cases hf : (findA ac s).2 = true
    · rw [if_pos hf] at h1
      exact absurd rfl h1
    · rw [if_neg hf]
      exact (by decide : (0 : Nat) < 9000000000000000000)
def corP (ac : List S57) (a : ByteArray) (s : S32) : Bool := hasB (belowA ac a).1 s.f1
theorem refCores_l0 (c : List Int) (ps : List S87) (ac : List S57) (q : List S59) (pl : Int) (hs : Small ac) (hr : rightA ac = true) (l : List S53) (a : ByteArray) (hf : (findA ac a).2 = true) (ht : Tame l) : ∀ d j, l.length - j = d → j ≤ l.length → Ev (fun k => musterref15_Cores.l0 k l a (sumQ (corP ac a) (l.take j)) (j : Int) c ps ac q pl) (sumQ (corP ac a) l, 0)
  | 0, j, hd, hj => Ev.stp (fun k => by rw [musterref15_Cores.l0]) (Ev.neg (by omega) (Ev.one (by rw [List.take_of_length_le (by omega)])))
  | d + 1, j, hd, hj => by
    have hlt : j < l.length := by omega
    have ih := refCores_l0 c ps ac q pl hs hr l a hf ht d (j + 1) (by omega) (by omega)
    have hT := ht.2
    have hb := ht.take (p := corP ac a) j
    have ht1 := (tame_iff _).1 (ht.1 l[j] (List.getElem_mem hlt))
    have hm := mul_range ht1.1 ht1.2.1 ht1.2.2.1 ht1.2.2.2
    rw [sum_take _ _ _ hlt] at ih
    refine Ev.stp (fun k => by rw [musterref15_Cores.l0]) (Ev.pos (by omega) (Ev.pos (by omega) ?_))
    rw [rdJ l j hlt, show wrap64 ((j : Int) + 1) = ((j + 1 : Nat) : Int) by unfold wrap64; omega]
    refine Ev.bnd (rpath_ev hs _) ?_
    by_cases h2 : l[j].f4 = 2
    · refine Ev.pos h2 (Ev.bnd (in_ev _ a (pathA_len ac _ hr)) ?_)
      rw [path_below a l[j].f3.f1 hf hr]
      by_cases h3 : hasB (belowA ac a).1 l[j].f3.f1 = true
      · have hh : hit (corP ac a) l[j] = true := by unfold hit corP; rw [h2, h3]; rfl
        refine Ev.pos h3 ?_
        unfold oneQ at ih
        rw [if_pos hh] at ih
        rw [show wrap64 (l[j].f3.f4 * l[j].f3.f5) = l[j].f3.f4 * l[j].f3.f5 by unfold wrap64; omega, show wrap64 (sumQ (corP ac a) (l.take j) + l[j].f3.f4 * l[j].f3.f5) = sumQ (corP ac a) (l.take j) + l[j].f3.f4 * l[j].f3.f5 by unfold wrap64; omega]
        exact ih
      · have hh : ¬ hit (corP ac a) l[j] = true := by unfold hit corP; rw [Bool.not_eq_true] at h3; rw [h3]; simp
        unfold oneQ at ih
        rw [if_neg hh, Int.add_zero] at ih
        exact Ev.neg h3 ih
    · have hh : ¬ hit (corP ac a) l[j] = true := by unfold hit; rw [beq_eq_false_iff_ne.2 h2]; simp
      unfold oneQ at ih
      rw [if_neg hh, Int.add_zero] at ih
      exact Ev.neg h2 ih
theorem refCores_ev (c : List Int) (ps : List S87) (ac : List S57) (q : List S59) (pl : Int) (hs : Small ac) (hm : mildQ q ac = true) (l : List S53) (a : ByteArray) (ht : Tame l) : Ev (fun k => musterref15_Cores.f k c ps ac q pl l a) (coresQ q ac l a) := by
  unfold musterref15_Cores.f musterref15_Right.f coresQ
  rw [if_pos hm]
  refine Ev.sbnd ?_
  by_cases hr : rightQ q ac = true
  · rw [if_pos hr]
    have hra : rightA ac = true := by
      unfold rightQ at hr
      simp only [Bool.and_eq_true] at hr
      exact hr.2
    refine Ev.pos hr (Ev.bnd (refFind_ev ac a (by have := hs.1; omega)) ?_)
    by_cases hf : (findA ac a).2 = true
    · rw [if_pos hf]
      refine Ev.pos hf ?_
      have h := refCores_l0 c ps ac q pl hs hra l a hf ht _ 0 rfl (Nat.zero_le _)
      rw [List.take_zero] at h
      exact h
    · rw [if_neg hf]
      exact Ev.neg hf (Ev.one rfl)
  · rw [if_neg hr]
    exact Ev.neg hr (Ev.one rfl)
end Go.Proofs.Ytcnobkcddgcifaa.PT
/- The document's calls upon a configuration in memory. (A part of the print PT.) -/
set_option linter.unusedVariables false
set_option linter.unusedSimpArgs false
namespace Go.Proofs.Ytcnobkcddgcifaa.PT
open Go.RowKit Go.Proofs.YtcnobkcddgcifaaW.PrintWords Go.Proofs.YtcnobkcddgcifaaW.PrintLast Go.Proofs.YtcnobkcddgcifaaW.PrintMore Go.Proofs.Ytcnobkcddgcifaa.Gen Go.Proofs.Ytcnobkcddgcifaa.EvK
theorem mild_small {q : List S59} {ac : List S57} (hm : mildQ q ac = true) (hl : ac.length ≤ 1000000000000) : Small ac := ⟨hl, (mildQ_iff.1 hm).2.2.1⟩
theorem refCoresQ_calls {w : World} {cs : Array Value} {q : List S59} {ac : List S57} (h : Cfg w cs q ac) (hm : mildQ q ac = true) (hs : Small ac) (l : List S53) (A : Option Addr) (c n : Nat) (hn : n = l.length) (a : ByteArray) (hr : Kd.C k53 w A l.length l) (hc : l.length ≤ c) (ht : Tame l) :
    Calls Try.prog 12 #[.agg cs, .slice A n c, .string a] w fun e w' => e = .returned (.tuple #[.int .i64 (coresQ q ac l a).1, .int .i64 (coresQ q ac l a).2]) ∧ Below w.heap.size w w' := by
  subst hn
  obtain ⟨A0, c0, l0, A1, c1, l1, A2, c2, A3, c3, pl, rfl, h0, h1, h2, h3, h4, h5, h6, h7⟩ := h.is
  obtain ⟨k, hk⟩ := Ev.the (refCores_ev l0 l1 ac q pl hs hm l a ht)
  exact musterref15_Cores.calls k A0 c0 l0 A1 c1 l1 A2 c2 ac A3 c3 q pl A c l a _ _ w h0 h1 h2 h3 h4 h5 h6 h7 hr hc hk
theorem refQosQ_calls {w : World} {cs : Array Value} {q : List S59} {ac : List S57} (h : Cfg w cs q ac) (hm : mildQ q ac = true) (l : List S53) (A : Option Addr) (c n : Nat) (hn : n = l.length) (a : ByteArray) (hr : Kd.C k53 w A l.length l) (hc : l.length ≤ c) (ht : Tame l) :
    Calls Try.prog 14 #[.agg cs, .slice A n c, .string a] w fun e w' => e = .returned (.tuple #[.int .i64 (qosQ q ac l a).1, .int .i64 (qosQ q ac l a).2.1, .int .i64 (qosQ q ac l a).2.2]) ∧ Below w.heap.size w w' := by
  subst hn
  obtain ⟨A0, c0, l0, A1, c1, l1, A2, c2, A3, c3, pl, rfl, h0, h1, h2, h3, h4, h5, h6, h7⟩ := h.is
  obtain ⟨k, hk⟩ := Ev.the (refQos_ev l0 l1 ac q pl hm l a ht)
  exact musterref15_Qos.calls k A0 c0 l0 A1 c1 l1 A2 c2 ac A3 c3 q pl A c l a _ _ _ w h0 h1 h2 h3 h4 h5 h6 h7 hr hc hk
theorem refPath_calls (ac : List S57) (hs : Small ac) (A : Option Addr) (c n : Nat) (hn : n = ac.length) (s : ByteArray) (w : World) (hr : Kd.C k57 w A ac.length ac) (hc : ac.length ≤ c) :
    Calls Try.prog 31 #[.slice A n c, .string s] w fun e w' => ∃ A' c', e = .returned (.tuple #[.slice A' (pathA ac s).1.length c', .int .i64 (pathA ac s).2]) ∧ (pathA ac s).1.length ≤ c' ∧ Kd.C Kd.string w' A' (pathA ac s).1.length (pathA ac s).1 ∧ Below w.heap.size w w' := by
  subst hn
  obtain ⟨k, hk⟩ := Ev.the (rpath_ev hs s)
  refine (musterref14_Path.calls k A c ac s _ _ w hr hc hk).mono ?_
  rintro e w' ⟨v, rfl, ho, hb⟩
  obtain ⟨A', c', rfl, h1, h2⟩ := Kd.R_reads ho
  exact ⟨A', c', rfl, h1, h2, hb⟩
theorem refFindA_calls (ac : List S57) (hl : ac.length < 9000000000000000000) (A : Option Addr) (c n : Nat) (hn : n = ac.length) (s : ByteArray) (w : World) (hr : Kd.C k57 w A ac.length ac) (hc : ac.length ≤ c) :
    Calls Try.prog 30 #[.slice A n c, .string s] w fun e w' => e = .returned (.tuple #[.int .i64 (findA ac s).1, .bool (findA ac s).2]) ∧ Below w.heap.size w w' := by
  subst hn
  exact find_at2 ac A c _ rfl hl s w hr hc
end Go.Proofs.Ytcnobkcddgcifaa.PT
-- printed by wprint.py (this session's program over the kit's print.py)
namespace Go.Proofs.Ytcnobkcddgcifaa.PT
open Go.RowKit Go.Proofs.YtcnobkcddgcifaaW.PrintWords Go.Proofs.YtcnobkcddgcifaaW.PrintLast Go.Proofs.YtcnobkcddgcifaaW.PrintMore
attribute [local go_sem] max2_int min2_int max_two min_two max_three min_three max_four min_four   -- for this text's walks alone
set_option linter.unusedVariables false
set_option linter.unusedSimpArgs false

/-! ### quota_Qos: function 13 -/
def quota_Qos.f (l0_0 : List Int) (l0_1 : List (S87)) (l0_2 : List (S57)) (l0_3 : List (S59)) (a0_4 : Int) (l1 : List (S53)) (a2 : ByteArray) : Option (Int × Int × Int) := if tameL l0_2 l1 = true then some (qosQ l0_3 l0_2 l1 a2) else none
theorem quota_Qos.calls (A0_0 : Option Addr) (c0_0 : Nat) (l0_0 : List Int) (A0_1 : Option Addr) (c0_1 : Nat) (l0_1 : List (S87)) (A0_2 : Option Addr) (c0_2 : Nat) (l0_2 : List (S57)) (A0_3 : Option Addr) (c0_3 : Nat) (l0_3 : List (S59)) (a0_4 : Int) (A1 : Option Addr) (c1 : Nat) (l1 : List (S53)) (a2 : ByteArray) (r1 r2 r3 : Int) (w : World) (hr0_0 : Kd.C (Kd.int .i64) w A0_0 l0_0.length l0_0) (hc0_0 : l0_0.length ≤ c0_0) (hr0_1 : Kd.C k87 w A0_1 l0_1.length l0_1) (hc0_1 : l0_1.length ≤ c0_1) (hr0_2 : Kd.C k57 w A0_2 l0_2.length l0_2) (hc0_2 : l0_2.length ≤ c0_2) (hr0_3 : Kd.C k59 w A0_3 l0_3.length l0_3) (hc0_3 : l0_3.length ≤ c0_3) (hr1 : Kd.C k53 w A1 l1.length l1) (hc1 : l1.length ≤ c1) (h : quota_Qos.f l0_0 l0_1 l0_2 l0_3 a0_4 l1 a2 = some (r1, r2, r3)) : Calls Try.prog 13 #[.agg #[.slice A0_0 l0_0.length c0_0, .slice A0_1 l0_1.length c0_1, .slice A0_2 l0_2.length c0_2, .slice A0_3 l0_3.length c0_3, .int .u8 a0_4], .slice A1 l1.length c1, .string a2] w fun e w' => e = .returned (.tuple #[.int .i64 r1, .int .i64 r2, .int .i64 r3]) ∧ Below w.heap.size w w' := by
  unfold quota_Qos.f at h
  split at h
  · rename_i ht
    have hh := Option.some.inj h
    have := qos_calls (cs := #[.slice A0_0 l0_0.length c0_0, .slice A0_1 l0_1.length c0_1, .slice A0_2 l0_2.length c0_2, .slice A0_3 l0_3.length c0_3, .int .u8 a0_4]) ⟨A0_0, c0_0, l0_0, A0_1, c0_1, l0_1, A0_2, c0_2, A0_3, c0_3, a0_4, rfl, hr0_0, hc0_0, hr0_1, hc0_1, hr0_2, hc0_2, hr0_3, hc0_3⟩ l1 A1 c1 a2 hr1 hc1 (tameL_iff.1 ht).1
    rw [hh] at this
    exact this
  · cases h

end Go.Proofs.Ytcnobkcddgcifaa.PT
-- printed by wprint.py (this session's program over the kit's print.py)
namespace Go.Proofs.Ytcnobkcddgcifaa.PT
open Go.RowKit Go.Proofs.YtcnobkcddgcifaaW.PrintWords Go.Proofs.YtcnobkcddgcifaaW.PrintLast Go.Proofs.YtcnobkcddgcifaaW.PrintMore
attribute [local go_sem] max2_int min2_int max_two min_two max_three min_three max_four min_four   -- for this text's walks alone
set_option linter.unusedVariables false
set_option linter.unusedSimpArgs false

/-! ### quota_used: function 29 -/
def quota_used.f (l0_0 : List Int) (l0_1 : List (S87)) (l0_2 : List (S57)) (l0_3 : List (S59)) (a0_4 : Int) (l1 : List (S53)) (a2 : ByteArray) : Option (Int) := if tameL l0_2 l1 = true then some (usedQ l0_2 l1 a2) else none
theorem quota_used.calls (A0_0 : Option Addr) (c0_0 : Nat) (l0_0 : List Int) (A0_1 : Option Addr) (c0_1 : Nat) (l0_1 : List (S87)) (A0_2 : Option Addr) (c0_2 : Nat) (l0_2 : List (S57)) (A0_3 : Option Addr) (c0_3 : Nat) (l0_3 : List (S59)) (a0_4 : Int) (A1 : Option Addr) (c1 : Nat) (l1 : List (S53)) (a2 : ByteArray) (r : Int) (w : World) (hr0_0 : Kd.C (Kd.int .i64) w A0_0 l0_0.length l0_0) (hc0_0 : l0_0.length ≤ c0_0) (hr0_1 : Kd.C k87 w A0_1 l0_1.length l0_1) (hc0_1 : l0_1.length ≤ c0_1) (hr0_2 : Kd.C k57 w A0_2 l0_2.length l0_2) (hc0_2 : l0_2.length ≤ c0_2) (hr0_3 : Kd.C k59 w A0_3 l0_3.length l0_3) (hc0_3 : l0_3.length ≤ c0_3) (hr1 : Kd.C k53 w A1 l1.length l1) (hc1 : l1.length ≤ c1) (h : quota_used.f l0_0 l0_1 l0_2 l0_3 a0_4 l1 a2 = some r) : Calls Try.prog 29 #[.agg #[.slice A0_0 l0_0.length c0_0, .slice A0_1 l0_1.length c0_1, .slice A0_2 l0_2.length c0_2, .slice A0_3 l0_3.length c0_3, .int .u8 a0_4], .slice A1 l1.length c1, .string a2] w fun e w' => e = .returned (.int .i64 r) ∧ Below w.heap.size w w' := by
  unfold quota_used.f at h
  split at h
  · rename_i ht
    obtain rfl := Option.some.inj h
    exact used_calls (cs := #[.slice A0_0 l0_0.length c0_0, .slice A0_1 l0_1.length c0_1, .slice A0_2 l0_2.length c0_2, .slice A0_3 l0_3.length c0_3, .int .u8 a0_4]) ⟨A0_0, c0_0, l0_0, A0_1, c0_1, l0_1, A0_2, c0_2, A0_3, c0_3, a0_4, rfl, hr0_0, hc0_0, hr0_1, hc0_1, hr0_2, hc0_2, hr0_3, hc0_3⟩ (tameL_iff.1 ht).2 l1 A1 c1 a2 hr1 hc1 (tameL_iff.1 ht).1
  · cases h

end Go.Proofs.Ytcnobkcddgcifaa.PT
-- printed by wprint.py (this session's program over the kit's print.py)
namespace Go.Proofs.Ytcnobkcddgcifaa.PT
open Go.RowKit Go.Proofs.YtcnobkcddgcifaaW.PrintWords Go.Proofs.YtcnobkcddgcifaaW.PrintLast Go.Proofs.YtcnobkcddgcifaaW.PrintMore
attribute [local go_sem] max2_int min2_int max_two min_two max_three min_three max_four min_four   -- for this text's walks alone
set_option linter.unusedVariables false
set_option linter.unusedSimpArgs false

/-! ### quota_above: function 43 -/
def quota_above.l0 : Nat → Int → Int → List Int → Int → Int → Option (Bool)
  | 0, _, _, _, _, _ => none
  | k + 1, x0, x5, x8, x9, x10 => if x10 < x9 then (if 0 ≤ x10 then (if x10 < (x8.length : Int) then (quota_above.l0 k x0 (wrap64 (x5 + (rd x8 x10))) x8 x9 (wrap64 (x10 + 1))) else (none)) else (none)) else (if x0 ≥ 0 then (some (decide (x5 > x0))) else (some false))
def quota_above.f (k : Nat) (a0 : Int) (l1 : List Int) : Option (Bool) := quota_above.l0 k a0 0 l1 (l1.length : Int) 0
theorem quota_above.mono_l : ∀ k, (∀ y0 y1 y2 y3 y4, LeO (quota_above.l0 k y0 y1 y2 y3 y4) (quota_above.l0 (k + 1) y0 y1 y2 y3 y4))
  | 0 => fun _ _ _ _ _ r h => by simp [quota_above.l0] at h
  | k + 1 => by
    have ih0 := quota_above.mono_l k
    · intro y0 y1 y2 y3 y4
      unfold quota_above.l0
      repeat' first
      | (with_reducible exact ih0 _ _ _ _ _)
      | (with_reducible exact LeO.refl _)
      | (with_reducible exact LeO.none _)
      | (with_reducible refine LeO.ite ?_ ?_)
      | (with_reducible refine LeO.bind ?_ (fun _ => ?_))
      | exact ih0 _ _ _ _ _
      | exact LeO.none _
      | refine LeO.ite ?_ ?_
      | refine LeO.bind ?_ (fun _ => ?_)
theorem quota_above.mono : ∀ a0 a1 k, LeO (quota_above.f k a0 a1) (quota_above.f (k + 1) a0 a1) := by
  intro a0 a1 k
  have ih0 := quota_above.mono_l k
  unfold quota_above.f
  repeat' first
      | (with_reducible exact ih0 _ _ _ _ _)
      | (with_reducible exact LeO.refl _)
      | (with_reducible exact LeO.none _)
      | (with_reducible refine LeO.ite ?_ ?_)
      | (with_reducible refine LeO.bind ?_ (fun _ => ?_))
      | exact ih0 _ _ _ _ _
      | exact LeO.none _
      | refine LeO.ite ?_ ?_
      | refine LeO.bind ?_ (fun _ => ?_)
set_option maxHeartbeats 8000000 in
set_option maxRecDepth 100000 in
theorem quota_above.calls (k : Nat) (a0 : Int) (A1 : Option Addr) (c1 : Nat) (l1 : List Int) (r : Bool) (w : World) (hr1 : Kd.C (Kd.int .i64) w A1 l1.length l1) (hc1 : l1.length ≤ c1) (h : quota_above.f k a0 l1 = some r) :
    Calls Try.prog 43 #[.int .i64 a0, .slice A1 l1.length c1] w fun e w' => e = .returned (.bool r) ∧ Drawn0 w w' := by
  have HR1 := Aside0.mk hr1
  have HC1 := Aside0.mk hc1
  clear hr1 hc1
  have H : (quota_above.l0 k a0 0 l1 (l1.length : Int) 0) = some r := h
  clear h
  have H' := Aside0.mk H
  clear H
  go_enter Try.func43, Try.ntmps43
  go_wp2
  go_loopg [5, 10] k (fun kq v5 v10 w' => ∃ (x5_1 : Int) (x10_1 : Int), v5 = .int .i64 x5_1 ∧ v10 = .int .i64 x10_1 ∧ Aside0 (quota_above.l0 kq a0 x5_1 l1 (l1.length : Int) x10_1 = some r) ∧ Aside0 (kq ≤ k) ∧ Drawn0 w w')
  case atStart => exact ⟨(0), (0), (by first | rfl | (simp; done) | (simp [*]; done)), (by first | rfl | (simp; done) | (simp [*]; done)), H', ⟨Nat.le_refl _⟩, by repeat (first | exact Drawn0.refl _ | apply Drawn0.step)⟩
  case round =>
    clear H'
    try clear c1
    try clear p2
    obtain ⟨x5_1, x10_1, rfl, rfl, HA, HK1, ⟨m1, rfl⟩⟩ := hrel
    cases gk with
    | zero => exact absurd HA.out (by simp [quota_above.l0])
    | succ k1 =>
      have H := HA.out
      clear HA
      simp only [quota_above.l0] at H
      by_cases c3 : x10_1 < (l1.length : Int)
      · rw [if_pos c3] at H
        have c3b0 : decide (x10_1 < (l1.length : Int)) = true := decide_eq_true c3
        clear c3
        by_cases c4 : 0 ≤ x10_1
        · rw [if_pos c4] at H
          have c4b0 : decide (0 ≤ x10_1) = true := decide_eq_true c4
          clear c4
          by_cases c5 : x10_1 < (l1.length : Int)
          · rw [if_pos c5] at H
            have c5b0 : decide (x10_1 < (l1.length : Int)) = true := decide_eq_true c5
            clear c5
            have H' := Aside0.mk H
            clear H
            have p288 : 0 ≤ (x10_1 : Int) := of_decide_eq_true (by first | (with_reducible assumption) | assumption)
            have q288 : x10_1 < (l1.length : Int) := of_decide_eq_true (by first | (with_reducible assumption) | assumption)
            obtain ⟨ad288, e288, hx288_0⟩ := Kd.at_int HR1.out x10_1 p288 q288
            cases e288
            replace p288 := eq_true p288
            replace q288 := eq_true q288
            go_wp2
            go_roundg k1
            case measure => have := HK1.out; omega
            case rel => exact ⟨(wrap64 (x5_1 + (rd l1 x10_1))), (wrap64 (x10_1 + 1)), (by first | rfl | (simp; done) | (simp [*]; done)), (by first | rfl | (simp; done) | (simp [*]; done)), H', ⟨by have := HK1.out; omega⟩, by repeat (first | exact Drawn0.refl _ | apply Drawn0.step)⟩
          · rw [if_neg c5] at H
            exact absurd H (by simp)
        · rw [if_neg c4] at H
          exact absurd H (by simp)
      · rw [if_neg c3] at H
        have c3b0 : decide (x10_1 < (l1.length : Int)) = false := decide_eq_false c3
        clear c3
        by_cases c6 : a0 ≥ 0
        · rw [if_pos c6] at H
          have c6b0 : decide (0 ≤ a0) = true := decide_eq_true c6
          clear c6
          obtain rfl := Option.some.inj H
          go_wp2
          go_ret
          exact ⟨by first | rfl | (simp; done) | (simp [*]; done), by repeat (first | exact Drawn0.refl _ | apply Drawn0.step)⟩
        · rw [if_neg c6] at H
          have c6b0 : decide (0 ≤ a0) = false := decide_eq_false c6
          clear c6
          obtain rfl := Option.some.inj H
          go_wp2
          go_ret
          exact ⟨by first | rfl | (simp; done) | (simp [*]; done), by repeat (first | exact Drawn0.refl _ | apply Drawn0.step)⟩

end Go.Proofs.Ytcnobkcddgcifaa.PT
