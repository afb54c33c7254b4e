/- Texts of this claim, laid together: PTx39, QuotaM. -/
import Derived.Test.YtcnobkcddgcifaaPkT0
import Derived.Test.YtcnobkcddgcifaaPkT1
import Derived.Test.YtcnobkcddgcifaaPkT2
import Derived.Test.YtcnobkcddgcifaaPkT3
import Derived.Test.YtcnobkcddgcifaaPkT4
import Derived.Test.YtcnobkcddgcifaaPkT5
import Derived.Test.YtcnobkcddgcifaaPkT6
-- printed by wprint.py (this session's program over the kit's print.py)
namespace Go.Proofs.Ytcnobkcddgcifaa.PT
open Go.RowKit Go.Proofs.YtcnobkcddgcifaaW.PrintWords Go.Proofs.YtcnobkcddgcifaaW.PrintLast Go.Proofs.YtcnobkcddgcifaaW.PrintMore
attribute [local go_sem] max2_int min2_int max_two min_two max_three min_three max_four min_four   -- for this text's walks alone
set_option linter.unusedVariables false
set_option linter.unusedSimpArgs false

/-! ### quota_May: function 17 -/
mutual
def quota_May.j0 : Nat → List (S53) → List ByteArray → Int → Bool → List Int → List (S87) → List (S57) → List (S59) → Int → ByteArray → ByteArray → ByteArray → ByteArray → Int → Int → Int → List (S112) → Option (Int)
  | 0, _, _, _, _, _, _, _, _, _, _, _, _, _, _, _, _, _ => none
  | k + 1, x1, x7, x9, x39, x290000, x290001, x290002, x290003, x290004, x291000, x291001, x291002, x291003, x291004, x291005, x291006, x291007 => if x39 = true then (some 141) else (quota_May.l0 k x1 x9 (wrap64 (x291004 * x291005)) x7 (x7.length : Int) 0 x290000 x290001 x290002 x290003 x290004 x291000 x291001 x291002 x291003 x291004 x291005 x291006 x291007)
def quota_May.l0 : Nat → List (S53) → Int → Int → List ByteArray → Int → Int → List Int → List (S87) → List (S57) → List (S59) → Int → ByteArray → ByteArray → ByteArray → ByteArray → Int → Int → Int → List (S112) → Option (Int)
  | 0, _, _, _, _, _, _, _, _, _, _, _, _, _, _, _, _, _, _, _ => none
  | k + 1, x1, x9, x10, x45, x46, x47, x290000, x290001, x290002, x290003, x290004, x291000, x291001, x291002, x291003, x291004, x291005, x291006, x291007 => if x47 < x46 then (if 0 ≤ x47 then (if x47 < (x45.length : Int) then ((tree_Find.f x290002 (rdOf ByteArray.empty x45 x47)).bind fun bt298 => (if 0 ≤ bt298.1 then (if bt298.1 < (x290002.length : Int) then ((quota_used.f x290000 x290001 x290002 x290003 x290004 x1 (rdOf ByteArray.empty x45 x47)).bind fun t301 => ((quota_above.f k ((rd_T57 x290002 bt298.1).f2) (([t301, x10] : List Int))).bind fun t305 => (if t305 = true then (some 150) else (quota_May.l0 k x1 x9 x10 x45 x46 (wrap64 (x47 + 1)) x290000 x290001 x290002 x290003 x290004 x291000 x291001 x291002 x291003 x291004 x291005 x291006 x291007)))) else (none)) else (none))) else (none)) else (none)) else ((quota_Qos.f x290000 x290001 x290002 x290003 x290004 x1 x291002).bind fun bt306 => (if 0 ≤ x9 then (if x9 < (x290003.length : Int) then ((quota_above.f k ((rd_T59 x290003 x9).f2) (([bt306.1, x10] : List Int))).bind fun t313 => (if t313 = true then (some 150) else ((quota_above.f k ((rd_T59 x290003 x9).f3) (([bt306.2.1, 1] : List Int))).bind fun t318 => (if t318 = true then (some 150) else (some 0))))) else (none)) else (none)))
end
def quota_May.f (k : Nat) (l0_0 : List Int) (l0_1 : List (S87)) (l0_2 : List (S57)) (l0_3 : List (S59)) (a0_4 : Int) (l1 : List (S53)) (a2_0 : ByteArray) (a2_1 : ByteArray) (a2_2 : ByteArray) (a2_3 : ByteArray) (a2_4 : Int) (a2_5 : Int) (a2_6 : Int) (l2_7 : List (S112)) : Option (Int) := (quota_Right.f k l0_0 l0_1 l0_2 l0_3 a0_4).bind fun t291 => (if t291 = true then ((tree_Path.f k l0_2 a2_1).bind fun bt292 => ((quota_find.f l0_3 a2_2).bind fun t296 => (if bt292.2 = 0 then (quota_May.j0 k l1 bt292.1 t296 (decide (t296 < 0)) l0_0 l0_1 l0_2 l0_3 a0_4 a2_0 a2_1 a2_2 a2_3 a2_4 a2_5 a2_6 l2_7) else (quota_May.j0 k l1 bt292.1 t296 true l0_0 l0_1 l0_2 l0_3 a0_4 a2_0 a2_1 a2_2 a2_3 a2_4 a2_5 a2_6 l2_7)))) else (some 2))
theorem quota_May.mono_l : ∀ k, (∀ y0 y1 y2 y3 y4 y5 y6 y7 y8 y9 y10 y11 y12 y13 y14 y15 y16, LeO (quota_May.j0 k y0 y1 y2 y3 y4 y5 y6 y7 y8 y9 y10 y11 y12 y13 y14 y15 y16) (quota_May.j0 (k + 1) y0 y1 y2 y3 y4 y5 y6 y7 y8 y9 y10 y11 y12 y13 y14 y15 y16)) ∧ (∀ y0 y1 y2 y3 y4 y5 y6 y7 y8 y9 y10 y11 y12 y13 y14 y15 y16 y17 y18, LeO (quota_May.l0 k y0 y1 y2 y3 y4 y5 y6 y7 y8 y9 y10 y11 y12 y13 y14 y15 y16 y17 y18) (quota_May.l0 (k + 1) y0 y1 y2 y3 y4 y5 y6 y7 y8 y9 y10 y11 y12 y13 y14 y15 y16 y17 y18))
  | 0 => ⟨fun _ _ _ _ _ _ _ _ _ _ _ _ _ _ _ _ _ r h => by simp [quota_May.j0] at h, fun _ _ _ _ _ _ _ _ _ _ _ _ _ _ _ _ _ _ _ r h => by simp [quota_May.l0] at h⟩
  | k + 1 => by
    obtain ⟨ih0, ih1⟩ := quota_May.mono_l k
    refine ⟨?_, ?_⟩
    · intro y0 y1 y2 y3 y4 y5 y6 y7 y8 y9 y10 y11 y12 y13 y14 y15 y16
      unfold quota_May.j0
      repeat' first
      | (with_reducible exact ih0 _ _ _ _ _ _ _ _ _ _ _ _ _ _ _ _ _)
      | (with_reducible exact ih1 _ _ _ _ _ _ _ _ _ _ _ _ _ _ _ _ _ _ _)
      | (with_reducible exact quota_Right.mono _ _ _ _ _ _)
      | (with_reducible exact quota_above.mono _ _ _)
      | (with_reducible exact tree_Path.mono _ _ _)
      | (with_reducible exact LeO.refl _)
      | (with_reducible exact LeO.none _)
      | (with_reducible refine LeO.ite ?_ ?_)
      | (with_reducible refine LeO.bind ?_ (fun _ => ?_))
      | exact ih0 _ _ _ _ _ _ _ _ _ _ _ _ _ _ _ _ _
      | exact ih1 _ _ _ _ _ _ _ _ _ _ _ _ _ _ _ _ _ _ _
      | exact quota_Right.mono _ _ _ _ _ _
      | exact quota_above.mono _ _ _
      | exact tree_Path.mono _ _ _
      | exact LeO.none _
      | refine LeO.ite ?_ ?_
      | refine LeO.bind ?_ (fun _ => ?_)
    · intro y0 y1 y2 y3 y4 y5 y6 y7 y8 y9 y10 y11 y12 y13 y14 y15 y16 y17 y18
      unfold quota_May.l0
      repeat' first
      | (with_reducible exact ih0 _ _ _ _ _ _ _ _ _ _ _ _ _ _ _ _ _)
      | (with_reducible exact ih1 _ _ _ _ _ _ _ _ _ _ _ _ _ _ _ _ _ _ _)
      | (with_reducible exact quota_Right.mono _ _ _ _ _ _)
      | (with_reducible exact quota_above.mono _ _ _)
      | (with_reducible exact tree_Path.mono _ _ _)
      | (with_reducible exact LeO.refl _)
      | (with_reducible exact LeO.none _)
      | (with_reducible refine LeO.ite ?_ ?_)
      | (with_reducible refine LeO.bind ?_ (fun _ => ?_))
      | exact ih0 _ _ _ _ _ _ _ _ _ _ _ _ _ _ _ _ _
      | exact ih1 _ _ _ _ _ _ _ _ _ _ _ _ _ _ _ _ _ _ _
      | exact quota_Right.mono _ _ _ _ _ _
      | exact quota_above.mono _ _ _
      | exact tree_Path.mono _ _ _
      | exact LeO.none _
      | refine LeO.ite ?_ ?_
      | refine LeO.bind ?_ (fun _ => ?_)
theorem quota_May.mono : ∀ a0 a1 a2 a3 a4 a5 a6 a7 a8 a9 a10 a11 a12 a13 k, LeO (quota_May.f k a0 a1 a2 a3 a4 a5 a6 a7 a8 a9 a10 a11 a12 a13) (quota_May.f (k + 1) a0 a1 a2 a3 a4 a5 a6 a7 a8 a9 a10 a11 a12 a13) := by
  intro a0 a1 a2 a3 a4 a5 a6 a7 a8 a9 a10 a11 a12 a13 k
  obtain ⟨ih0, ih1⟩ := quota_May.mono_l k
  unfold quota_May.f
  repeat' first
      | (with_reducible exact ih0 _ _ _ _ _ _ _ _ _ _ _ _ _ _ _ _ _)
      | (with_reducible exact ih1 _ _ _ _ _ _ _ _ _ _ _ _ _ _ _ _ _ _ _)
      | (with_reducible exact quota_Right.mono _ _ _ _ _ _)
      | (with_reducible exact quota_above.mono _ _ _)
      | (with_reducible exact tree_Path.mono _ _ _)
      | (with_reducible exact LeO.refl _)
      | (with_reducible exact LeO.none _)
      | (with_reducible refine LeO.ite ?_ ?_)
      | (with_reducible refine LeO.bind ?_ (fun _ => ?_))
      | exact ih0 _ _ _ _ _ _ _ _ _ _ _ _ _ _ _ _ _
      | exact ih1 _ _ _ _ _ _ _ _ _ _ _ _ _ _ _ _ _ _ _
      | exact quota_Right.mono _ _ _ _ _ _
      | exact quota_above.mono _ _ _
      | exact tree_Path.mono _ _ _
      | exact LeO.none _
      | refine LeO.ite ?_ ?_
      | refine LeO.bind ?_ (fun _ => ?_)
def quota_May.T12 : Bool × List (List Nat × List Nat) := (true, [([], []), ([0], [0]), ([], []), ([1, 2], [1, 2]), ([3], [3]), ([4], [4]), ([], []), ([], []), ([], []), ([6, 7, 8], [6, 7, 8]), ([], []), ([9, 10], [9, 10]), ([5, 11, 9], [5, 11])])
def quota_May.B12 : List Nat := [0, 1, 0, 7, 15, 31, 0, 0, 0, 448, 0, 1984, 4095]
theorem quota_May.tab12 : rtab .any (opsOf Try.f17 12) = quota_May.T12 := by kernel_rfl
theorem quota_May.bits12 : waitsOk quota_May.T12.2 quota_May.B12 = true := by kernel_rfl
set_option maxHeartbeats 8000000 in
set_option maxRecDepth 100000 in
theorem quota_May.calls (k : Nat) (A0_0 : Option Addr) (c0_0 : Nat) (l0_0 : List Int) (A0_1 : Option Addr) (c0_1 : Nat) (l0_1 : List (S87)) (A0_2 : Option Addr) (c0_2 : Nat) (l0_2 : List (S57)) (A0_3 : Option Addr) (c0_3 : Nat) (l0_3 : List (S59)) (a0_4 : Int) (A1 : Option Addr) (c1 : Nat) (l1 : List (S53)) (a2_0 : ByteArray) (a2_1 : ByteArray) (a2_2 : ByteArray) (a2_3 : ByteArray) (a2_4 : Int) (a2_5 : Int) (a2_6 : Int) (A2_7 : Option Addr) (c2_7 : Nat) (l2_7 : List (S112)) (r : Int) (w : World) (hr0_0 : Kd.C (Kd.int .i64) w A0_0 l0_0.length l0_0) (hc0_0 : l0_0.length ≤ c0_0) (hr0_1 : Kd.C k87 w A0_1 l0_1.length l0_1) (hc0_1 : l0_1.length ≤ c0_1) (hr0_2 : Kd.C k57 w A0_2 l0_2.length l0_2) (hc0_2 : l0_2.length ≤ c0_2) (hr0_3 : Kd.C k59 w A0_3 l0_3.length l0_3) (hc0_3 : l0_3.length ≤ c0_3) (hr1 : Kd.C k53 w A1 l1.length l1) (hc1 : l1.length ≤ c1) (hr2_7 : Kd.C k112 w A2_7 l2_7.length l2_7) (hc2_7 : l2_7.length ≤ c2_7) (h : quota_May.f k l0_0 l0_1 l0_2 l0_3 a0_4 l1 a2_0 a2_1 a2_2 a2_3 a2_4 a2_5 a2_6 l2_7 = some r) :
    Calls Try.prog 17 #[.agg #[.slice A0_0 l0_0.length c0_0, .slice A0_1 l0_1.length c0_1, .slice A0_2 l0_2.length c0_2, .slice A0_3 l0_3.length c0_3, .int .u8 a0_4], .slice A1 l1.length c1, .agg #[.string a2_0, .string a2_1, .string a2_2, .string a2_3, .int .i64 a2_4, .int .i64 a2_5, .int .i64 a2_6, .slice A2_7 l2_7.length c2_7]] w fun e w' => e = .returned (.int .i64 r) ∧ Below w.heap.size w w' := by
  have hu28 := Try.underlying28
  have hu32 := Try.underlying32
  have HR0_0 := Aside0.mk hr0_0
  have HC0_0 := Aside0.mk hc0_0
  clear hr0_0 hc0_0
  have HR0_1 := Aside0.mk hr0_1
  have HC0_1 := Aside0.mk hc0_1
  clear hr0_1 hc0_1
  have HR0_2 := Aside0.mk hr0_2
  have HC0_2 := Aside0.mk hc0_2
  clear hr0_2 hc0_2
  have HR0_3 := Aside0.mk hr0_3
  have HC0_3 := Aside0.mk hc0_3
  clear hr0_3 hc0_3
  have HR1 := Aside0.mk hr1
  have HC1 := Aside0.mk hc1
  clear hr1 hc1
  have HR2_7 := Aside0.mk hr2_7
  have HC2_7 := Aside0.mk hc2_7
  clear hr2_7 hc2_7
  have HB := Aside0.mk (Below.refl w.heap.size w)
  have H : ((quota_Right.f k l0_0 l0_1 l0_2 l0_3 a0_4).bind fun t291 => (if t291 = true then ((tree_Path.f k l0_2 a2_1).bind fun bt292 => ((quota_find.f l0_3 a2_2).bind fun t296 => (if bt292.2 = 0 then (quota_May.j0 k l1 bt292.1 t296 (decide (t296 < 0)) l0_0 l0_1 l0_2 l0_3 a0_4 a2_0 a2_1 a2_2 a2_3 a2_4 a2_5 a2_6 l2_7) else (quota_May.j0 k l1 bt292.1 t296 true l0_0 l0_1 l0_2 l0_3 a0_4 a2_0 a2_1 a2_2 a2_3 a2_4 a2_5 a2_6 l2_7)))) else (some 2))) = some r := h
  clear h
  replace H := Option.bind_eq_some_iff.mp H
  obtain ⟨t291, A40, H⟩ := H
  replace H : (if t291 = true then ((tree_Path.f k l0_2 a2_1).bind fun bt292 => ((quota_find.f l0_3 a2_2).bind fun t296 => (if bt292.2 = 0 then (quota_May.j0 k l1 bt292.1 t296 (decide (t296 < 0)) l0_0 l0_1 l0_2 l0_3 a0_4 a2_0 a2_1 a2_2 a2_3 a2_4 a2_5 a2_6 l2_7) else (quota_May.j0 k l1 bt292.1 t296 true l0_0 l0_1 l0_2 l0_3 a0_4 a2_0 a2_1 a2_2 a2_3 a2_4 a2_5 a2_6 l2_7)))) else (some 2)) = some r := H
  have A4 := Aside0.mk A40
  clear A40
  by_cases c5 : t291 = true
  · subst c5
    have H1 : ((tree_Path.f k l0_2 a2_1).bind fun bt292 => ((quota_find.f l0_3 a2_2).bind fun t296 => (if bt292.2 = 0 then (quota_May.j0 k l1 bt292.1 t296 (decide (t296 < 0)) l0_0 l0_1 l0_2 l0_3 a0_4 a2_0 a2_1 a2_2 a2_3 a2_4 a2_5 a2_6 l2_7) else (quota_May.j0 k l1 bt292.1 t296 true l0_0 l0_1 l0_2 l0_3 a0_4 a2_0 a2_1 a2_2 a2_3 a2_4 a2_5 a2_6 l2_7)))) = some r := by rw [if_pos rfl] at H; exact H
    clear H
    have H := H1
    clear H1
    replace H := Option.bind_eq_some_iff.mp H
    obtain ⟨⟨t292, t293⟩, A60, H⟩ := H
    replace H : ((quota_find.f l0_3 a2_2).bind fun t296 => (if t293 = 0 then (quota_May.j0 k l1 t292 t296 (decide (t296 < 0)) l0_0 l0_1 l0_2 l0_3 a0_4 a2_0 a2_1 a2_2 a2_3 a2_4 a2_5 a2_6 l2_7) else (quota_May.j0 k l1 t292 t296 true l0_0 l0_1 l0_2 l0_3 a0_4 a2_0 a2_1 a2_2 a2_3 a2_4 a2_5 a2_6 l2_7))) = some r := H
    have A6 := Aside0.mk A60
    clear A60
    replace H := Option.bind_eq_some_iff.mp H
    obtain ⟨t296, A70, H⟩ := H
    replace H : (if t293 = 0 then (quota_May.j0 k l1 t292 t296 (decide (t296 < 0)) l0_0 l0_1 l0_2 l0_3 a0_4 a2_0 a2_1 a2_2 a2_3 a2_4 a2_5 a2_6 l2_7) else (quota_May.j0 k l1 t292 t296 true l0_0 l0_1 l0_2 l0_3 a0_4 a2_0 a2_1 a2_2 a2_3 a2_4 a2_5 a2_6 l2_7)) = some r := H
    have A7 := Aside0.mk A70
    clear A70
    have HC8 := Aside0.mk H
    clear H
    go_enter Try.func17, Try.ntmps17
    go_upto_region 5 with (first | ((with_reducible refine gate_dst (N := 3) rfl ?_); (try (refine gate_guard (by rfl) ?_; dsimp only)); refine box_event ?hg (N := 3) ?hd (cs := #[.slice A0_0 l0_0.length c0_0, .slice A0_1 l0_1.length c0_1, .slice A0_2 l0_2.length c0_2, .slice A0_3 l0_3.length c0_3, .int .u8 a0_4]) (t := 28) ?hr ?_; (case hd => rfl); (case hg => rfl); (case hr => first | (go_simp; done) | (go_simp; rfl)); intro gb289 hg w9 hbox hb; have n0_ := Aside0.mk (below_step (by repeat (first | (with_reducible first | exact HB.out | apply below_alloc | apply pw_below_drewN | apply below_drew1) | exact HB.out)) hb); have n1_ := Aside0.mk (hbox); have n2_ := Aside0.mk ((by rw [hg]; exact (below_size (by repeat (first | (with_reducible first | exact HB.out | apply below_alloc | apply pw_below_drewN | apply below_drew1) | exact HB.out))) : w.heap.size ≤ gb289)); have n3_ := Aside0.mk ((by rw [hg]; exact (below_size (by repeat (first | (with_reducible first | exact HB.out | apply below_alloc | apply pw_below_drewN | apply below_drew1) | exact HB.out))) : w.heap.size ≤ gb289)); clear HB; have HB := n0_; have BK289 := n1_; have GW289 := n2_; have GE289 := n3_; clear n0_ n1_ n2_ n3_; clear hb hbox hg) | ((with_reducible refine gate_dst (N := 5) rfl ?_); (try (refine gate_guard (by rfl) ?_; dsimp only)); refine box_event ?hg (N := 5) ?hd (cs := #[.string a2_0, .string a2_1, .string a2_2, .string a2_3, .int .i64 a2_4, .int .i64 a2_5, .int .i64 a2_6, .slice A2_7 l2_7.length c2_7]) (t := 32) ?hr ?_; (case hd => rfl); (case hg => rfl); (case hr => first | (go_simp; done) | (go_simp; rfl)); intro gb290 hg w10 hbox hb; have n0_ := Aside0.mk (blk_below (g := gb289) (o := .cells #[.slice A0_0 l0_0.length c0_0, .slice A0_1 l0_1.length c0_1, .slice A0_2 l0_2.length c0_2, .slice A0_3 l0_3.length c0_3, .int .u8 a0_4] 28 (0, 0)) (by (with_reducible repeat (first | refine blk_drewN ?_ _ | refine blk_drew ?_ | refine blk_alloc ?_ _)); exact BK289.out) hb); have n1_ := Aside0.mk (below_step (by repeat (first | (with_reducible first | exact HB.out | apply below_alloc | apply pw_below_drewN | apply below_drew1 | refine below_set ?_ GE289.out) | exact HB.out)) hb); have n2_ := Aside0.mk (hbox); have n3_ := Aside0.mk ((by rw [hg]; exact (below_size (by repeat (first | (with_reducible first | exact HB.out | apply below_alloc | apply pw_below_drewN | apply below_drew1 | refine below_set ?_ GE289.out) | exact HB.out))) : w.heap.size ≤ gb290)); have n4_ := Aside0.mk ((by rw [hg]; exact (below_size (by repeat (first | (with_reducible first | exact HB.out | apply below_alloc | apply pw_below_drewN | apply below_drew1 | refine below_set ?_ GE289.out) | exact HB.out))) : w.heap.size ≤ gb290)); have n5_ := Aside0.mk ((by rw [hg]; exact Nat.ne_of_lt (blk_lt (g := gb289) (o := .cells #[.slice A0_0 l0_0.length c0_0, .slice A0_1 l0_1.length c0_1, .slice A0_2 l0_2.length c0_2, .slice A0_3 l0_3.length c0_3, .int .u8 a0_4] 28 (0, 0)) (by (with_reducible repeat (first | refine blk_drewN ?_ _ | refine blk_drew ?_ | refine blk_alloc ?_ _)); exact BK289.out)) : gb289 ≠ gb290)); have n6_ := Aside0.mk ((by rw [hg]; exact Nat.ne_of_gt (blk_lt (g := gb289) (o := .cells #[.slice A0_0 l0_0.length c0_0, .slice A0_1 l0_1.length c0_1, .slice A0_2 l0_2.length c0_2, .slice A0_3 l0_3.length c0_3, .int .u8 a0_4] 28 (0, 0)) (by (with_reducible repeat (first | refine blk_drewN ?_ _ | refine blk_drew ?_ | refine blk_alloc ?_ _)); exact BK289.out)) : gb290 ≠ gb289)); clear BK289; clear HB; have BK289 := n0_; have HB := n1_; have BK290 := n2_; have GW290 := n3_; have GE290 := n4_; have NB289_290 := n5_; have NB290_289 := n6_; clear n0_ n1_ n2_ n3_ n4_ n5_ n6_; clear hb hbox hg; have hnb11 := NB289_290.out; have hnc11 := NB290_289.out; have hcz12_0 : w10.cell? ⟨gb289, 0, none⟩ = some (.slice A0_0 l0_0.length c0_0) := (blk_cell BK289.out 0).trans rfl; have hcz12_1 : w10.cell? ⟨gb289, 1, none⟩ = some (.slice A0_1 l0_1.length c0_1) := (blk_cell BK289.out 1).trans rfl; have hcz12_2 : w10.cell? ⟨gb289, 2, none⟩ = some (.slice A0_2 l0_2.length c0_2) := (blk_cell BK289.out 2).trans rfl; have hcz12_3 : w10.cell? ⟨gb289, 3, none⟩ = some (.slice A0_3 l0_3.length c0_3) := (blk_cell BK289.out 3).trans rfl; have hcz12_4 : w10.cell? ⟨gb289, 4, none⟩ = some (.int .u8 a0_4) := (blk_cell BK289.out 4).trans rfl; have hfz12_0 := blk_frozen BK289.out 0; have hfz12_1 := blk_frozen BK289.out 1; have hfz12_2 := blk_frozen BK289.out 2; have hfz12_3 := blk_frozen BK289.out 3; have hfz12_4 := blk_frozen BK289.out 4) | ((with_reducible refine gate_callee (f := 15) rfl ?_); refine goesL_ (some 19) rfl rfl Try.func15 (by kernel_rfl) rfl #[.agg #[.slice A0_0 l0_0.length c0_0, .slice A0_1 l0_1.length c0_1, .slice A0_2 l0_2.length c0_2, .slice A0_3 l0_3.length c0_3, .int .u8 a0_4]] rfl (by (try simp only [List.map_toArray, List.map_cons, List.map_nil]); first | done | rfl | (simp only [List.length_drop, List.length_take]; rfl)) ?_; (with_reducible refine (quota_Right.calls k _ _ l0_0 _ _ l0_1 _ _ l0_2 _ _ l0_3 a0_4 true _ ?side1 ?side2 ?side3 ?side4 ?side5 ?side6 ?side7 ?side8 A4.out).mono ?_); (case side1 => repeat (first | exact (Kd.C_below HR0_0.out HB.out) | (with_reducible refine Kd.C_alloc ?_ _) | (with_reducible refine Kd.C_drewN ?_ _) | (with_reducible refine Kd.C_drew ?_))); (case side2 => exact HC0_0.out); (case side3 => repeat (first | exact (Kd.C_below HR0_1.out HB.out) | (with_reducible refine Kd.C_alloc ?_ _) | (with_reducible refine Kd.C_drewN ?_ _) | (with_reducible refine Kd.C_drew ?_))); (case side4 => exact HC0_1.out); (case side5 => repeat (first | exact (Kd.C_below HR0_2.out HB.out) | (with_reducible refine Kd.C_alloc ?_ _) | (with_reducible refine Kd.C_drewN ?_ _) | (with_reducible refine Kd.C_drew ?_))); (case side6 => exact HC0_2.out); (case side7 => repeat (first | exact (Kd.C_below HR0_3.out HB.out) | (with_reducible refine Kd.C_alloc ?_ _) | (with_reducible refine Kd.C_drewN ?_ _) | (with_reducible refine Kd.C_drew ?_))); (case side8 => exact HC0_3.out); rintro e w13 ⟨rfl, hb⟩; refine ⟨_, rfl, ?_⟩; have n0_ := Aside0.mk (blk_below (g := gb289) (o := .cells #[.slice A0_0 l0_0.length c0_0, .slice A0_1 l0_1.length c0_1, .slice A0_2 l0_2.length c0_2, .slice A0_3 l0_3.length c0_3, .int .u8 a0_4] 28 (0, 0)) (by (with_reducible repeat (first | refine blk_drewN ?_ _ | refine blk_drew ?_ | refine blk_alloc ?_ _)); exact BK289.out) hb); have n1_ := Aside0.mk (blk_below (g := gb290) (o := .cells #[.string a2_0, .string a2_1, .string a2_2, .string a2_3, .int .i64 a2_4, .int .i64 a2_5, .int .i64 a2_6, .slice A2_7 l2_7.length c2_7] 32 (0, 0)) (by (with_reducible repeat (first | refine blk_drewN ?_ _ | refine blk_drew ?_ | refine blk_alloc ?_ _)); exact BK290.out) hb); have n2_ := Aside0.mk (below_step (by repeat (first | (with_reducible first | exact HB.out | apply below_alloc | apply pw_below_drewN | apply below_drew1 | refine below_set ?_ GE289.out | refine below_set ?_ GE290.out) | exact HB.out)) hb); clear BK289; clear BK290; clear HB; have BK289 := n0_; have BK290 := n1_; have HB := n2_; clear n0_ n1_ n2_; (try clear hb); (try clear hb2); (try clear hk); (try clear hi); have hcz14_0 : w13.cell? ⟨gb289, 0, none⟩ = some (.slice A0_0 l0_0.length c0_0) := (blk_cell BK289.out 0).trans rfl; have hcz14_1 : w13.cell? ⟨gb289, 1, none⟩ = some (.slice A0_1 l0_1.length c0_1) := (blk_cell BK289.out 1).trans rfl; have hcz14_2 : w13.cell? ⟨gb289, 2, none⟩ = some (.slice A0_2 l0_2.length c0_2) := (blk_cell BK289.out 2).trans rfl; have hcz14_3 : w13.cell? ⟨gb289, 3, none⟩ = some (.slice A0_3 l0_3.length c0_3) := (blk_cell BK289.out 3).trans rfl; have hcz14_4 : w13.cell? ⟨gb289, 4, none⟩ = some (.int .u8 a0_4) := (blk_cell BK289.out 4).trans rfl; have hfz14_0 := blk_frozen BK289.out 0; have hfz14_1 := blk_frozen BK289.out 1; have hfz14_2 := blk_frozen BK289.out 2; have hfz14_3 := blk_frozen BK289.out 3; have hfz14_4 := blk_frozen BK289.out 4; have hcz15_0 : w13.cell? ⟨gb290, 0, none⟩ = some (.string a2_0) := (blk_cell BK290.out 0).trans rfl; have hcz15_1 : w13.cell? ⟨gb290, 1, none⟩ = some (.string a2_1) := (blk_cell BK290.out 1).trans rfl; have hcz15_2 : w13.cell? ⟨gb290, 2, none⟩ = some (.string a2_2) := (blk_cell BK290.out 2).trans rfl; have hcz15_3 : w13.cell? ⟨gb290, 3, none⟩ = some (.string a2_3) := (blk_cell BK290.out 3).trans rfl; have hcz15_4 : w13.cell? ⟨gb290, 4, none⟩ = some (.int .i64 a2_4) := (blk_cell BK290.out 4).trans rfl; have hcz15_5 : w13.cell? ⟨gb290, 5, none⟩ = some (.int .i64 a2_5) := (blk_cell BK290.out 5).trans rfl; have hcz15_6 : w13.cell? ⟨gb290, 6, none⟩ = some (.int .i64 a2_6) := (blk_cell BK290.out 6).trans rfl; have hcz15_7 : w13.cell? ⟨gb290, 7, none⟩ = some (.slice A2_7 l2_7.length c2_7) := (blk_cell BK290.out 7).trans rfl; have hfz15_0 := blk_frozen BK290.out 0; have hfz15_1 := blk_frozen BK290.out 1; have hfz15_2 := blk_frozen BK290.out 2; have hfz15_3 := blk_frozen BK290.out 3; have hfz15_4 := blk_frozen BK290.out 4; have hfz15_5 := blk_frozen BK290.out 5; have hfz15_6 := blk_frozen BK290.out 6; have hfz15_7 := blk_frozen BK290.out 7) | ((with_reducible refine gate_callee (f := 42) rfl ?_); refine goesL_ (some 26) rfl rfl Try.func42 (by kernel_rfl) rfl #[.slice A0_2 l0_2.length c0_2, .string a2_1] rfl (by (try simp only [List.map_toArray, List.map_cons, List.map_nil]); first | done | rfl | (simp only [List.length_drop, List.length_take]; rfl)) ?_; (with_reducible refine (tree_Path.calls k _ _ l0_2 a2_1 t292 t293 _ ?side1 ?side2 A6.out).mono ?_); (case side1 => repeat (first | exact (Kd.C_below HR0_2.out HB.out) | (with_reducible refine Kd.C_alloc ?_ _) | (with_reducible refine Kd.C_drewN ?_ _) | (with_reducible refine Kd.C_drew ?_))); (case side2 => exact HC0_2.out); rintro e w16 ⟨v294, rfl, ho0, hb⟩; refine ⟨_, rfl, ?_⟩; have n0_ := Aside0.mk (Kd.R_lower ho0 (below_size (by repeat (first | (with_reducible first | exact HB.out | apply below_alloc | apply pw_below_drewN | apply below_drew1 | refine below_set ?_ GE289.out | refine below_set ?_ GE290.out) | exact HB.out)))); have n1_ := Aside0.mk (blk_below (g := gb289) (o := .cells #[.slice A0_0 l0_0.length c0_0, .slice A0_1 l0_1.length c0_1, .slice A0_2 l0_2.length c0_2, .slice A0_3 l0_3.length c0_3, .int .u8 a0_4] 28 (0, 0)) (by (with_reducible repeat (first | refine blk_drewN ?_ _ | refine blk_drew ?_ | refine blk_alloc ?_ _)); exact BK289.out) hb); have n2_ := Aside0.mk (blk_below (g := gb290) (o := .cells #[.string a2_0, .string a2_1, .string a2_2, .string a2_3, .int .i64 a2_4, .int .i64 a2_5, .int .i64 a2_6, .slice A2_7 l2_7.length c2_7] 32 (0, 0)) (by (with_reducible repeat (first | refine blk_drewN ?_ _ | refine blk_drew ?_ | refine blk_alloc ?_ _)); exact BK290.out) hb); have n3_ := Aside0.mk (below_step (by repeat (first | (with_reducible first | exact HB.out | apply below_alloc | apply pw_below_drewN | apply below_drew1 | refine below_set ?_ GE289.out | refine below_set ?_ GE290.out) | exact HB.out)) hb); clear BK289; clear BK290; clear HB; have HO295 := n0_; have BK289 := n1_; have BK290 := n2_; have HB := n3_; clear n0_ n1_ n2_ n3_; (try clear hb); (try clear hb2); (try clear hk); (try clear hi); (try clear ho0); have hcz17_0 : w16.cell? ⟨gb289, 0, none⟩ = some (.slice A0_0 l0_0.length c0_0) := (blk_cell BK289.out 0).trans rfl; have hcz17_1 : w16.cell? ⟨gb289, 1, none⟩ = some (.slice A0_1 l0_1.length c0_1) := (blk_cell BK289.out 1).trans rfl; have hcz17_2 : w16.cell? ⟨gb289, 2, none⟩ = some (.slice A0_2 l0_2.length c0_2) := (blk_cell BK289.out 2).trans rfl; have hcz17_3 : w16.cell? ⟨gb289, 3, none⟩ = some (.slice A0_3 l0_3.length c0_3) := (blk_cell BK289.out 3).trans rfl; have hcz17_4 : w16.cell? ⟨gb289, 4, none⟩ = some (.int .u8 a0_4) := (blk_cell BK289.out 4).trans rfl; have hfz17_0 := blk_frozen BK289.out 0; have hfz17_1 := blk_frozen BK289.out 1; have hfz17_2 := blk_frozen BK289.out 2; have hfz17_3 := blk_frozen BK289.out 3; have hfz17_4 := blk_frozen BK289.out 4; have hcz18_0 : w16.cell? ⟨gb290, 0, none⟩ = some (.string a2_0) := (blk_cell BK290.out 0).trans rfl; have hcz18_1 : w16.cell? ⟨gb290, 1, none⟩ = some (.string a2_1) := (blk_cell BK290.out 1).trans rfl; have hcz18_2 : w16.cell? ⟨gb290, 2, none⟩ = some (.string a2_2) := (blk_cell BK290.out 2).trans rfl; have hcz18_3 : w16.cell? ⟨gb290, 3, none⟩ = some (.string a2_3) := (blk_cell BK290.out 3).trans rfl; have hcz18_4 : w16.cell? ⟨gb290, 4, none⟩ = some (.int .i64 a2_4) := (blk_cell BK290.out 4).trans rfl; have hcz18_5 : w16.cell? ⟨gb290, 5, none⟩ = some (.int .i64 a2_5) := (blk_cell BK290.out 5).trans rfl; have hcz18_6 : w16.cell? ⟨gb290, 6, none⟩ = some (.int .i64 a2_6) := (blk_cell BK290.out 6).trans rfl; have hcz18_7 : w16.cell? ⟨gb290, 7, none⟩ = some (.slice A2_7 l2_7.length c2_7) := (blk_cell BK290.out 7).trans rfl; have hfz18_0 := blk_frozen BK290.out 0; have hfz18_1 := blk_frozen BK290.out 1; have hfz18_2 := blk_frozen BK290.out 2; have hfz18_3 := blk_frozen BK290.out 3; have hfz18_4 := blk_frozen BK290.out 4; have hfz18_5 := blk_frozen BK290.out 5; have hfz18_6 := blk_frozen BK290.out 6; have hfz18_7 := blk_frozen BK290.out 7) | ((with_reducible refine gate_callee (f := 33) rfl ?_); refine goesL_ (some 33) rfl rfl Try.func33 (by kernel_rfl) rfl #[.slice A0_3 l0_3.length c0_3, .string a2_2] rfl (by (try simp only [List.map_toArray, List.map_cons, List.map_nil]); first | done | rfl | (simp only [List.length_drop, List.length_take]; rfl)) ?_; (with_reducible refine (quota_find.calls _ _ l0_3 a2_2 t296 _ ?side1 ?side2 A7.out).mono ?_); (case side1 => repeat (first | exact (Kd.C_below HR0_3.out HB.out) | (with_reducible refine Kd.C_alloc ?_ _) | (with_reducible refine Kd.C_drewN ?_ _) | (with_reducible refine Kd.C_drew ?_))); (case side2 => exact HC0_3.out); rintro e w19 ⟨rfl, hb⟩; refine ⟨_, rfl, ?_⟩; have n0_ := Aside0.mk (Kd.R_below (by (with_reducible repeat (first | apply Kd.R_alloc | apply Kd.R_drewN | apply Kd.R_drew)); exact HO295.out) hb); have n1_ := Aside0.mk (blk_below (g := gb289) (o := .cells #[.slice A0_0 l0_0.length c0_0, .slice A0_1 l0_1.length c0_1, .slice A0_2 l0_2.length c0_2, .slice A0_3 l0_3.length c0_3, .int .u8 a0_4] 28 (0, 0)) (by (with_reducible repeat (first | refine blk_drewN ?_ _ | refine blk_drew ?_ | refine blk_alloc ?_ _)); exact BK289.out) hb); have n2_ := Aside0.mk (blk_below (g := gb290) (o := .cells #[.string a2_0, .string a2_1, .string a2_2, .string a2_3, .int .i64 a2_4, .int .i64 a2_5, .int .i64 a2_6, .slice A2_7 l2_7.length c2_7] 32 (0, 0)) (by (with_reducible repeat (first | refine blk_drewN ?_ _ | refine blk_drew ?_ | refine blk_alloc ?_ _)); exact BK290.out) hb); have n3_ := Aside0.mk (below_step (by repeat (first | (with_reducible first | exact HB.out | apply below_alloc | apply pw_below_drewN | apply below_drew1 | refine below_set ?_ GE289.out | refine below_set ?_ GE290.out) | exact HB.out)) hb); clear HO295; clear BK289; clear BK290; clear HB; have HO295 := n0_; have BK289 := n1_; have BK290 := n2_; have HB := n3_; clear n0_ n1_ n2_ n3_; (try clear hb); (try clear hb2); (try clear hk); (try clear hi)))
    (try simp only [Act.put, List.setIfInBounds_toArray, List.set_cons_zero, List.set_cons_succ])
    go_cut [39] (fun v39 wc => ∃ (kq : Nat) (x39_7 : Bool), v39 = .bool x39_7 ∧ Aside0 (quota_May.j0 kq l1 t292 t296 x39_7 l0_0 l0_1 l0_2 l0_3 a0_4 a2_0 a2_1 a2_2 a2_3 a2_4 a2_5 a2_6 l2_7 = some r) ∧ Aside0 (kq ≤ k) ∧ Aside0 (Kd.R Kd.string 9 wc w.heap.size (fun _ => True) v294 t292) ∧ Aside0 (wc.heap[gb289]? = some (.cells #[(.slice A0_0 l0_0.length c0_0), (.slice A0_1 l0_1.length c0_1), (.slice A0_2 l0_2.length c0_2), (.slice A0_3 l0_3.length c0_3), .int .u8 a0_4] 28 (0, 0))) ∧ Aside0 (wc.heap[gb290]? = some (.cells #[.string a2_0, .string a2_1, .string a2_2, .string a2_3, .int .i64 a2_4, .int .i64 a2_5, .int .i64 a2_6, (.slice A2_7 l2_7.length c2_7)] 32 (0, 0))) ∧ Aside0 (Below w.heap.size w wc))
    case first =>
      have H := HC8.out
      clear HC8
      by_cases c20 : t293 = 0
      · rw [if_pos c20] at H
        have c20b0 : (t293 == 0) = true := beq_iff_eq.mpr c20
        have c20b1 : (t293 != 0) = false := bne_eq_false_iff_eq.mpr c20
        clear c20
        (first | rw [c20b0] | (simp only [i64_w, i32_w]; rw [c20b0]) | skip)
        have H' := Aside0.mk H
        clear H
        go_wp2
        go_meet
        case rel => exact ⟨_, (decide (t296 < 0)), (by first | rfl | (simp; done) | (simp [*]; done)), H', ⟨by first | omega | exact Nat.le_refl _⟩, ⟨by (with_reducible repeat (first | apply Kd.R_alloc | apply Kd.R_drewN | apply Kd.R_drew)); exact HO295.out⟩, ⟨by (with_reducible repeat (first | refine blk_drewN ?_ _ | refine blk_drew ?_ | refine blk_alloc ?_ _)); exact BK289.out⟩, ⟨by (with_reducible repeat (first | refine blk_drewN ?_ _ | refine blk_drew ?_ | refine blk_alloc ?_ _)); exact BK290.out⟩, ⟨by repeat (first | (with_reducible first | exact HB.out | apply below_alloc | apply pw_below_drewN | apply below_drew1 | refine below_set ?_ GE289.out | refine below_set ?_ GE290.out) | exact HB.out)⟩⟩
      · rw [if_neg c20] at H
        have c20b0 : (t293 == 0) = false := beq_eq_false_iff_ne.mpr c20
        have c20b1 : (t293 != 0) = true := bne_iff_ne.mpr c20
        (first | rw [c20b0] | (simp only [i64_w, i32_w]; rw [c20b0]) | skip)
        have H' := Aside0.mk H
        clear H
        go_wp2
        go_meet
        case rel => exact ⟨_, (true), (by first | rfl | (simp; done) | (simp [*]; done)), H', ⟨by first | omega | exact Nat.le_refl _⟩, ⟨by (with_reducible repeat (first | apply Kd.R_alloc | apply Kd.R_drewN | apply Kd.R_drew)); exact HO295.out⟩, ⟨by (with_reducible repeat (first | refine blk_drewN ?_ _ | refine blk_drew ?_ | refine blk_alloc ?_ _)); exact BK289.out⟩, ⟨by (with_reducible repeat (first | refine blk_drewN ?_ _ | refine blk_drew ?_ | refine blk_alloc ?_ _)); exact BK290.out⟩, ⟨by repeat (first | (with_reducible first | exact HB.out | apply below_alloc | apply pw_below_drewN | apply below_drew1 | refine below_set ?_ GE289.out | refine below_set ?_ GE290.out) | exact HB.out)⟩⟩
    case rest =>
      clear HC8
      try clear c1
      try clear c2
      try clear p2
      try clear c3
      try clear c4
      try clear c5
      try clear c11
      try clear c15
      try clear c17
      try clear c20
      try clear c20b0
      try clear c20b1
      try clear hcz12_0
      try clear hcz12_1
      try clear hcz12_2
      try clear hcz12_3
      try clear hcz12_4
      try clear hcz14_0
      try clear hcz14_1
      try clear hcz14_2
      try clear hcz14_3
      try clear hcz14_4
      try clear hcz15_0
      try clear hcz15_1
      try clear hcz15_2
      try clear hcz15_3
      try clear hcz15_4
      try clear hcz15_5
      try clear hcz15_6
      try clear hcz15_7
      try clear hcz17_0
      try clear hcz17_1
      try clear hcz17_2
      try clear hcz17_3
      try clear hcz17_4
      try clear hcz18_0
      try clear hcz18_1
      try clear hcz18_2
      try clear hcz18_3
      try clear hcz18_4
      try clear hcz18_5
      try clear hcz18_6
      try clear hcz18_7
      try clear hfz12_0
      try clear hfz12_1
      try clear hfz12_2
      try clear hfz12_3
      try clear hfz12_4
      try clear hfz14_0
      try clear hfz14_1
      try clear hfz14_2
      try clear hfz14_3
      try clear hfz14_4
      try clear hfz15_0
      try clear hfz15_1
      try clear hfz15_2
      try clear hfz15_3
      try clear hfz15_4
      try clear hfz15_5
      try clear hfz15_6
      try clear hfz15_7
      try clear hfz17_0
      try clear hfz17_1
      try clear hfz17_2
      try clear hfz17_3
      try clear hfz17_4
      try clear hfz18_0
      try clear hfz18_1
      try clear hfz18_2
      try clear hfz18_3
      try clear hfz18_4
      try clear hfz18_5
      try clear hfz18_6
      try clear hfz18_7
      obtain ⟨kq, x39_7, rfl, HA, HJ7, HO_7, BK289, BK290, HB⟩ := hcut
      cases kq with
      | zero => exact absurd HA.out (by simp [quota_May.j0])
      | succ kj7 =>
        have H := HA.out
        clear HA
        simp only [quota_May.j0] at H
        by_cases c21 : x39_7 = true
        · subst c21
          have H1 : (some 141) = some r := by rw [if_pos rfl] at H; exact H
          clear H
          have H := H1
          clear H1
          obtain rfl := Option.some.inj H
          go_wp2
          go_ret
          exact ⟨by first | rfl | (simp [errW_none, errW_some] <;> rfl) | (simp [*, errW_none, errW_some] <;> rfl), by repeat (first | (with_reducible first | exact HB.out | apply below_alloc | apply pw_below_drewN | apply below_drew1 | refine below_set ?_ GE289.out | refine below_set ?_ GE290.out) | exact HB.out)⟩
        · replace c21 := Bool.eq_false_iff.mpr c21
          subst c21
          have H1 : (quota_May.l0 kj7 l1 t296 (wrap64 (a2_4 * a2_5)) t292 (t292.length : Int) 0 l0_0 l0_1 l0_2 l0_3 a0_4 a2_0 a2_1 a2_2 a2_3 a2_4 a2_5 a2_6 l2_7) = some r := by rw [if_neg (show ¬ (false = true) by decide)] at H; exact H
          clear H
          have H := H1
          clear H1
          have H' := Aside0.mk H
          clear H
          have hnb22 := NB290_289.out
          have hnc22 := NB289_290.out
          have hcz23_0 : wc.cell? ⟨gb290, 0, none⟩ = some (.string a2_0) := (blk_cell BK290.out 0).trans rfl
          have hcz23_1 : wc.cell? ⟨gb290, 1, none⟩ = some (.string a2_1) := (blk_cell BK290.out 1).trans rfl
          have hcz23_2 : wc.cell? ⟨gb290, 2, none⟩ = some (.string a2_2) := (blk_cell BK290.out 2).trans rfl
          have hcz23_3 : wc.cell? ⟨gb290, 3, none⟩ = some (.string a2_3) := (blk_cell BK290.out 3).trans rfl
          have hcz23_4 : wc.cell? ⟨gb290, 4, none⟩ = some (.int .i64 a2_4) := (blk_cell BK290.out 4).trans rfl
          have hcz23_5 : wc.cell? ⟨gb290, 5, none⟩ = some (.int .i64 a2_5) := (blk_cell BK290.out 5).trans rfl
          have hcz23_6 : wc.cell? ⟨gb290, 6, none⟩ = some (.int .i64 a2_6) := (blk_cell BK290.out 6).trans rfl
          have hcz23_7 : wc.cell? ⟨gb290, 7, none⟩ = some (.slice A2_7 l2_7.length c2_7) := (blk_cell BK290.out 7).trans rfl
          have hfz23_0 := blk_frozen BK290.out 0
          have hfz23_1 := blk_frozen BK290.out 1
          have hfz23_2 := blk_frozen BK290.out 2
          have hfz23_3 := blk_frozen BK290.out 3
          have hfz23_4 := blk_frozen BK290.out 4
          have hfz23_5 := blk_frozen BK290.out 5
          have hfz23_6 := blk_frozen BK290.out 6
          have hfz23_7 := blk_frozen BK290.out 7
          obtain ⟨Ao24, co24, eo24⟩ := Kd.R_slice HO_7.out
          subst eo24
          go_wp2
          go_loopg [47] kj7 (fun kq v47 w' => ∃ (x47_2 : Int), v47 = .int .i64 x47_2 ∧ Aside0 (quota_May.l0 kq l1 t296 (wrap64 (a2_4 * a2_5)) t292 (t292.length : Int) x47_2 l0_0 l0_1 l0_2 l0_3 a0_4 a2_0 a2_1 a2_2 a2_3 a2_4 a2_5 a2_6 l2_7 = some r) ∧ Aside0 (kq ≤ kj7) ∧ Aside0 (Kd.R Kd.string 9 w' w.heap.size (fun _ => True) (.slice Ao24 t292.length co24) t292) ∧ Aside0 (w'.heap[gb289]? = some (.cells #[(.slice A0_0 l0_0.length c0_0), (.slice A0_1 l0_1.length c0_1), (.slice A0_2 l0_2.length c0_2), (.slice A0_3 l0_3.length c0_3), .int .u8 a0_4] 28 (0, 0))) ∧ Aside0 (w'.heap[gb290]? = some (.cells #[.string a2_0, .string a2_1, .string a2_2, .string a2_3, .int .i64 a2_4, .int .i64 a2_5, .int .i64 a2_6, (.slice A2_7 l2_7.length c2_7)] 32 (0, 0))) ∧ Aside0 (Below w.heap.size w w'))
          case atStart => exact ⟨(0), (by first | rfl | (simp; done) | (simp [*]; done)), H', ⟨Nat.le_refl _⟩, ⟨by (with_reducible repeat (first | apply Kd.R_alloc | apply Kd.R_drewN | apply Kd.R_drew)); exact HO_7.out⟩, ⟨by (with_reducible repeat (first | refine blk_drewN ?_ _ | refine blk_drew ?_ | refine blk_alloc ?_ _)); exact BK289.out⟩, ⟨by (with_reducible repeat (first | refine blk_drewN ?_ _ | refine blk_drew ?_ | refine blk_alloc ?_ _)); exact BK290.out⟩, ⟨by repeat (first | (with_reducible first | exact HB.out | apply below_alloc | apply pw_below_drewN | apply below_drew1 | refine below_set ?_ GE289.out | refine below_set ?_ GE290.out) | exact HB.out)⟩⟩
          case round =>
            clear H'
            try clear c1
            try clear c2
            try clear p2
            try clear c3
            try clear c4
            try clear c5
            try clear p6
            try clear c11
            try clear c15
            try clear c17
            try clear c20
            try clear c20b0
            try clear c20b1
            try clear c21
            try clear c22
            try clear hcz12_0
            try clear hcz12_1
            try clear hcz12_2
            try clear hcz12_3
            try clear hcz12_4
            try clear hcz14_0
            try clear hcz14_1
            try clear hcz14_2
            try clear hcz14_3
            try clear hcz14_4
            try clear hcz15_0
            try clear hcz15_1
            try clear hcz15_2
            try clear hcz15_3
            try clear hcz15_4
            try clear hcz15_5
            try clear hcz15_6
            try clear hcz15_7
            try clear hcz17_0
            try clear hcz17_1
            try clear hcz17_2
            try clear hcz17_3
            try clear hcz17_4
            try clear hcz18_0
            try clear hcz18_1
            try clear hcz18_2
            try clear hcz18_3
            try clear hcz18_4
            try clear hcz18_5
            try clear hcz18_6
            try clear hcz18_7
            try clear hcz23_0
            try clear hcz23_1
            try clear hcz23_2
            try clear hcz23_3
            try clear hcz23_4
            try clear hcz23_5
            try clear hcz23_6
            try clear hcz23_7
            try clear hfz12_0
            try clear hfz12_1
            try clear hfz12_2
            try clear hfz12_3
            try clear hfz12_4
            try clear hfz14_0
            try clear hfz14_1
            try clear hfz14_2
            try clear hfz14_3
            try clear hfz14_4
            try clear hfz15_0
            try clear hfz15_1
            try clear hfz15_2
            try clear hfz15_3
            try clear hfz15_4
            try clear hfz15_5
            try clear hfz15_6
            try clear hfz15_7
            try clear hfz17_0
            try clear hfz17_1
            try clear hfz17_2
            try clear hfz17_3
            try clear hfz17_4
            try clear hfz18_0
            try clear hfz18_1
            try clear hfz18_2
            try clear hfz18_3
            try clear hfz18_4
            try clear hfz18_5
            try clear hfz18_6
            try clear hfz18_7
            try clear hfz23_0
            try clear hfz23_1
            try clear hfz23_2
            try clear hfz23_3
            try clear hfz23_4
            try clear hfz23_5
            try clear hfz23_6
            try clear hfz23_7
            try clear p2
            obtain ⟨x47_2, rfl, HA, HK2, HO_45, BK289, BK290, HB⟩ := hrel
            cases gk with
            | zero => exact absurd HA.out (by simp [quota_May.l0])
            | succ k2 =>
              have H := HA.out
              clear HA
              simp only [quota_May.l0] at H
              by_cases c25 : x47_2 < (t292.length : Int)
              · rw [if_pos c25] at H
                have c25b0 : decide (x47_2 < (t292.length : Int)) = true := decide_eq_true c25
                clear c25
                by_cases c26 : 0 ≤ x47_2
                · rw [if_pos c26] at H
                  have c26b0 : decide (0 ≤ x47_2) = true := decide_eq_true c26
                  clear c26
                  by_cases c27 : x47_2 < (t292.length : Int)
                  · rw [if_pos c27] at H
                    have c27b0 : decide (x47_2 < (t292.length : Int)) = true := decide_eq_true c27
                    clear c27
                    replace H := Option.bind_eq_some_iff.mp H
                    obtain ⟨⟨t298, t299⟩, A280, H⟩ := H
                    replace H : (if 0 ≤ t298 then (if t298 < (l0_2.length : Int) then ((quota_used.f l0_0 l0_1 l0_2 l0_3 a0_4 l1 (rdOf ByteArray.empty t292 x47_2)).bind fun t301 => ((quota_above.f k2 ((rd_T57 l0_2 t298).f2) (([t301, (wrap64 (a2_4 * a2_5))] : List Int))).bind fun t305 => (if t305 = true then (some 150) else (quota_May.l0 k2 l1 t296 (wrap64 (a2_4 * a2_5)) t292 (t292.length : Int) (wrap64 (x47_2 + 1)) l0_0 l0_1 l0_2 l0_3 a0_4 a2_0 a2_1 a2_2 a2_3 a2_4 a2_5 a2_6 l2_7)))) else (none)) else (none)) = some r := H
                    have A28 := Aside0.mk A280
                    clear A280
                    by_cases c29 : 0 ≤ t298
                    · rw [if_pos c29] at H
                      have c29b0 : decide (0 ≤ t298) = true := decide_eq_true c29
                      clear c29
                      by_cases c30 : t298 < (l0_2.length : Int)
                      · rw [if_pos c30] at H
                        have c30b0 : decide (t298 < (l0_2.length : Int)) = true := decide_eq_true c30
                        clear c30
                        replace H := Option.bind_eq_some_iff.mp H
                        obtain ⟨t301, A310, H⟩ := H
                        replace H : ((quota_above.f k2 ((rd_T57 l0_2 t298).f2) (([t301, (wrap64 (a2_4 * a2_5))] : List Int))).bind fun t305 => (if t305 = true then (some 150) else (quota_May.l0 k2 l1 t296 (wrap64 (a2_4 * a2_5)) t292 (t292.length : Int) (wrap64 (x47_2 + 1)) l0_0 l0_1 l0_2 l0_3 a0_4 a2_0 a2_1 a2_2 a2_3 a2_4 a2_5 a2_6 l2_7))) = some r := H
                        have A31 := Aside0.mk A310
                        clear A310
                        obtain ⟨y302, hy302⟩ : ∃ y_ : List Int, y_ = (([t301, (wrap64 (a2_4 * a2_5))] : List Int)) := ⟨_, rfl⟩
                        replace H : ((quota_above.f k2 ((rd_T57 l0_2 t298).f2) y302).bind fun t305 => (if t305 = true then (some 150) else (quota_May.l0 k2 l1 t296 (wrap64 (a2_4 * a2_5)) t292 (t292.length : Int) (wrap64 (x47_2 + 1)) l0_0 l0_1 l0_2 l0_3 a0_4 a2_0 a2_1 a2_2 a2_3 a2_4 a2_5 a2_6 l2_7))) = some r := by first | (rw [hy302]; with_reducible exact H) | (have H2_ := (Option.bind_some _ _).symm.trans H; rw [hy302]; with_reducible exact H2_) | (have H2_ := (Option.bind_some _ _).symm.trans H; with_reducible exact H2_) | with_reducible exact H | (rw [hy302]; exact H) | exact H
                        have Ny302 := Aside0.mk hy302
                        clear hy302
                        replace H := Option.bind_eq_some_iff.mp H
                        obtain ⟨t305, A320, H⟩ := H
                        replace H : (if t305 = true then (some 150) else (quota_May.l0 k2 l1 t296 (wrap64 (a2_4 * a2_5)) t292 (t292.length : Int) (wrap64 (x47_2 + 1)) l0_0 l0_1 l0_2 l0_3 a0_4 a2_0 a2_1 a2_2 a2_3 a2_4 a2_5 a2_6 l2_7)) = some r := H
                        have A32 := Aside0.mk A320
                        clear A320
                        by_cases c33 : t305 = true
                        · subst c33
                          have H1 : (some 150) = some r := by rw [if_pos rfl] at H; exact H
                          clear H
                          have H := H1
                          clear H1
                          obtain rfl := Option.some.inj H
                          have p297 : 0 ≤ (x47_2 : Int) := of_decide_eq_true (by first | (with_reducible assumption) | assumption)
                          have q297 : x47_2 < (t292.length : Int) := of_decide_eq_true (by first | (with_reducible assumption) | assumption)
                          obtain ⟨ad297, e297, hx297_0⟩ := Kd.at_string (Kd.R_reads' HO_45.out).2.2 x47_2 p297 q297
                          cases e297
                          replace p297 := eq_true p297
                          replace q297 := eq_true q297
                          have hnb34 := NB289_290.out
                          have hnc34 := NB290_289.out
                          have hcz35_0 : wr.cell? ⟨gb289, 0, none⟩ = some (.slice A0_0 l0_0.length c0_0) := (blk_cell BK289.out 0).trans rfl
                          have hcz35_1 : wr.cell? ⟨gb289, 1, none⟩ = some (.slice A0_1 l0_1.length c0_1) := (blk_cell BK289.out 1).trans rfl
                          have hcz35_2 : wr.cell? ⟨gb289, 2, none⟩ = some (.slice A0_2 l0_2.length c0_2) := (blk_cell BK289.out 2).trans rfl
                          have hcz35_3 : wr.cell? ⟨gb289, 3, none⟩ = some (.slice A0_3 l0_3.length c0_3) := (blk_cell BK289.out 3).trans rfl
                          have hcz35_4 : wr.cell? ⟨gb289, 4, none⟩ = some (.int .u8 a0_4) := (blk_cell BK289.out 4).trans rfl
                          have hfz35_0 := blk_frozen BK289.out 0
                          have hfz35_1 := blk_frozen BK289.out 1
                          have hfz35_2 := blk_frozen BK289.out 2
                          have hfz35_3 := blk_frozen BK289.out 3
                          have hfz35_4 := blk_frozen BK289.out 4
                          try go_wp2_with (first | ((with_reducible refine gate_callee (f := 28) rfl ?_); refine goesL_ (some 55) rfl rfl Try.func28 (by kernel_rfl) rfl #[.slice A0_2 l0_2.length c0_2, .string (rdOf ByteArray.empty t292 x47_2)] rfl (by (try simp only [List.map_toArray, List.map_cons, List.map_nil]); first | done | rfl | (simp only [List.length_drop, List.length_take]; rfl)) ?_; (with_reducible refine (tree_Find.calls _ _ l0_2 (rdOf ByteArray.empty t292 x47_2) t298 t299 _ ?side1 ?side2 A28.out).mono ?_); (case side1 => repeat (first | exact (Kd.C_below HR0_2.out HB.out) | (with_reducible refine Kd.C_alloc ?_ _) | (with_reducible refine Kd.C_drewN ?_ _) | (with_reducible refine Kd.C_drew ?_))); (case side2 => exact HC0_2.out); rintro e w36 ⟨rfl, hb⟩; refine ⟨_, rfl, ?_⟩; have n0_ := Aside0.mk (Kd.R_below (by (with_reducible repeat (first | apply Kd.R_alloc | apply Kd.R_drewN | apply Kd.R_drew)); exact HO_45.out) hb); have n1_ := Aside0.mk (blk_below (g := gb289) (o := .cells #[.slice A0_0 l0_0.length c0_0, .slice A0_1 l0_1.length c0_1, .slice A0_2 l0_2.length c0_2, .slice A0_3 l0_3.length c0_3, .int .u8 a0_4] 28 (0, 0)) (by (with_reducible repeat (first | refine blk_drewN ?_ _ | refine blk_drew ?_ | refine blk_alloc ?_ _)); exact BK289.out) hb); have n2_ := Aside0.mk (blk_below (g := gb290) (o := .cells #[.string a2_0, .string a2_1, .string a2_2, .string a2_3, .int .i64 a2_4, .int .i64 a2_5, .int .i64 a2_6, .slice A2_7 l2_7.length c2_7] 32 (0, 0)) (by (with_reducible repeat (first | refine blk_drewN ?_ _ | refine blk_drew ?_ | refine blk_alloc ?_ _)); exact BK290.out) hb); have n3_ := Aside0.mk (below_step (by repeat (first | (with_reducible first | exact HB.out | apply below_alloc | apply pw_below_drewN | apply below_drew1 | refine below_set ?_ GE289.out | refine below_set ?_ GE290.out) | exact HB.out)) hb); clear HO_45; clear BK289; clear BK290; clear HB; have HO_45 := n0_; have BK289 := n1_; have BK290 := n2_; have HB := n3_; clear n0_ n1_ n2_ n3_; (try clear hb); (try clear hb2); (try clear hk); (try clear hi)))
                          have n0_ := Aside0.mk (Kd.R_drew HO_45.out)
                          have n1_ := Aside0.mk (blk_drew BK289.out)
                          have n2_ := Aside0.mk (blk_drew BK290.out)
                          have n3_ := Aside0.mk (below_drew1 HB.out)
                          clear HO_45
                          clear BK289
                          clear BK290
                          clear HB
                          have HO_45 := n0_
                          have BK289 := n1_
                          have BK290 := n2_
                          have HB := n3_
                          clear n0_ n1_ n2_ n3_
                          have p300 : 0 ≤ (t298 : Int) := of_decide_eq_true (by first | (with_reducible assumption) | assumption)
                          have q300 : t298 < (l0_2.length : Int) := of_decide_eq_true (by first | (with_reducible assumption) | assumption)
                          obtain ⟨ad300, e300, hx300_0, hx300_1, hx300_2⟩ := at_T57 HR0_2.out t298 p300 q300
                          have hw300_2 := hx300_2
                          have hw300_1 := hx300_1
                          have hw300_0 := hx300_0
                          cases e300
                          replace hx300_0 := (HB.out.cell (World.block_lt_of_cell? w _ hx300_0)).trans hx300_0
                          replace hx300_1 := (HB.out.cell (World.block_lt_of_cell? w _ hx300_1)).trans hx300_1
                          replace hx300_2 := (HB.out.cell (World.block_lt_of_cell? w _ hx300_2)).trans hx300_2
                          replace p300 := eq_true p300
                          replace q300 := eq_true q300
                          refine start_ (n := 13) (S := fun w' => w'.cell? ⟨gb289, 0, none⟩ = some (.slice A0_0 l0_0.length c0_0) ∧ w'.cell? ⟨gb289, 1, none⟩ = some (.slice A0_1 l0_1.length c0_1) ∧ w'.cell? ⟨gb289, 2, none⟩ = some (.slice (some ad300) l0_2.length c0_2) ∧ w'.cell? ⟨gb289, 3, none⟩ = some (.slice A0_3 l0_3.length c0_3) ∧ w'.cell? ⟨gb289, 4, none⟩ = some (.int .u8 a0_4) ∧ w'.cell? (ad300.add ((t298).toNat * 3)) = some (.string ((rd_T57 l0_2 t298).f0)) ∧ w'.cell? ⟨(ad300.add ((t298).toNat * 3)).block, (ad300.add ((t298).toNat * 3)).off + 1, none⟩ = some (.string ((rd_T57 l0_2 t298).f1)) ∧ w'.cell? ⟨(ad300.add ((t298).toNat * 3)).block, (ad300.add ((t298).toNat * 3)).off + 2, none⟩ = some (.int .i64 ((rd_T57 l0_2 t298).f2))) (ds := []) (lk 13 0) (by kernel_rfl) rfl rfl ⟨(blk_cell BK289.out 0).trans rfl, (blk_cell BK289.out 1).trans rfl, (blk_cell BK289.out 2).trans rfl, (blk_cell BK289.out 3).trans rfl, (blk_cell BK289.out 4).trans rfl, ((HB.out.cell (World.block_lt_of_cell? w _ hw300_0)).trans hw300_0), ((HB.out.cell (World.block_lt_of_cell? w _ hw300_1)).trans hw300_1), ((HB.out.cell (World.block_lt_of_cell? w _ hw300_2)).trans hw300_2)⟩ (fun hHeld => ?_); refine with_tabW quota_May.tab12 quota_May.bits12 (fun HT_ HW_ => ?_)
                          generalize w36.drew = w37 at HO_45 BK289 BK290 HB hx300_0 hx300_1 hx300_2 hHeld ⊢
                          refine pu (i := 0) (N := some 58) (lk 13 1) ?_
                          refine pu (i := 2) (N := some 60) (lk 13 5) ?_
                          refine pu (i := 7) (N := some 65) (lk 13 133) ?_
                          refine pu (i := 8) (N := some 66) (lk 13 389) ?_
                          refine pu (i := 10) (N := some 68) (lk 13 1413) ?_
                          refine tk8 (i := 1) (N := some 59) (lk 13 1415) ?_
                          refine pu (i := 3) (N := some 61) (lk 13 1423) ?_
                          refine pu (i := 4) (N := some 62) (lk 13 1439) ?_
                          refine tk8 (i := 5) (N := some 63) (lk 13 1471) ?_
                          refine tk8 (i := 6) (N := some 64) (lk 13 1535) ?_
                          refine on1 (i := 9) (N := some 67) (lk 13 2047) (fun K hK => ?_)
                          refine goes_ Try.func29 (by kernel_rfl) rfl #[.agg #[.slice A0_0 l0_0.length c0_0, .slice A0_1 l0_1.length c0_1, .slice (some ad300) l0_2.length c0_2, .slice A0_3 l0_3.length c0_3, .int .u8 a0_4], .slice A1 l1.length c1, .string (rdOf ByteArray.empty t292 x47_2)] (by rfl) rfl rfl (by (try simp only [List.map_toArray, List.map_cons, List.map_nil]); first | done | rfl | (simp only [List.length_drop, List.length_take]; rfl)) ?_
                          with_reducible refine (quota_used.calls _ _ l0_0 _ _ l0_1 _ _ l0_2 _ _ l0_3 a0_4 _ _ l1 (rdOf ByteArray.empty t292 x47_2) t301 _ ?side1 ?side2 ?side3 ?side4 ?side5 ?side6 ?side7 ?side8 ?side9 ?side10 A31.out).mono ?_
                          (case side1 => repeat (first | exact (Kd.C_below HR0_0.out HB.out) | (with_reducible refine Kd.C_alloc ?_ _) | (with_reducible refine Kd.C_drewN ?_ _) | (with_reducible refine Kd.C_drew ?_)))
                          (case side2 => exact HC0_0.out)
                          (case side3 => repeat (first | exact (Kd.C_below HR0_1.out HB.out) | (with_reducible refine Kd.C_alloc ?_ _) | (with_reducible refine Kd.C_drewN ?_ _) | (with_reducible refine Kd.C_drew ?_)))
                          (case side4 => exact HC0_1.out)
                          (case side5 => repeat (first | exact (Kd.C_below HR0_2.out HB.out) | (with_reducible refine Kd.C_alloc ?_ _) | (with_reducible refine Kd.C_drewN ?_ _) | (with_reducible refine Kd.C_drew ?_)))
                          (case side6 => exact HC0_2.out)
                          (case side7 => repeat (first | exact (Kd.C_below HR0_3.out HB.out) | (with_reducible refine Kd.C_alloc ?_ _) | (with_reducible refine Kd.C_drewN ?_ _) | (with_reducible refine Kd.C_drew ?_)))
                          (case side8 => exact HC0_3.out)
                          (case side9 => repeat (first | exact (Kd.C_below HR1.out HB.out) | (with_reducible refine Kd.C_alloc ?_ _) | (with_reducible refine Kd.C_drewN ?_ _) | (with_reducible refine Kd.C_drew ?_)))
                          (case side10 => exact HC1.out)
                          rintro e w38 ⟨rfl, hb⟩
                          refine ⟨_, rfl, ?_⟩
                          have n0_ := Aside0.mk (Kd.R_below (by (with_reducible repeat (first | apply Kd.R_alloc | apply Kd.R_drewN | apply Kd.R_drew)); exact HO_45.out) hb)
                          have n1_ := Aside0.mk (blk_below (g := gb289) (o := .cells #[.slice A0_0 l0_0.length c0_0, .slice A0_1 l0_1.length c0_1, .slice (some ad300) l0_2.length c0_2, .slice A0_3 l0_3.length c0_3, .int .u8 a0_4] 28 (0, 0)) (by (with_reducible repeat (first | refine blk_drewN ?_ _ | refine blk_drew ?_ | refine blk_alloc ?_ _)); exact BK289.out) hb)
                          have n2_ := Aside0.mk (blk_below (g := gb290) (o := .cells #[.string a2_0, .string a2_1, .string a2_2, .string a2_3, .int .i64 a2_4, .int .i64 a2_5, .int .i64 a2_6, .slice A2_7 l2_7.length c2_7] 32 (0, 0)) (by (with_reducible repeat (first | refine blk_drewN ?_ _ | refine blk_drew ?_ | refine blk_alloc ?_ _)); exact BK290.out) hb)
                          have n3_ := Aside0.mk (below_step (by repeat (first | (with_reducible first | exact HB.out | apply below_alloc | apply pw_below_drewN | apply below_drew1 | refine below_set ?_ GE289.out | refine below_set ?_ GE290.out) | exact HB.out)) hb)
                          clear HO_45
                          clear BK289
                          clear BK290
                          clear HB
                          have HO_45 := n0_
                          have BK289 := n1_
                          have BK290 := n2_
                          have HB := n3_
                          clear n0_ n1_ n2_ n3_
                          (try clear hb)
                          (try clear hb2)
                          (try clear hk)
                          (try clear hi)
                          refine hK.out _ _ ⟨(blk_cell BK289.out 0).trans rfl, (blk_cell BK289.out 1).trans rfl, (blk_cell BK289.out 2).trans rfl, (blk_cell BK289.out 3).trans rfl, (blk_cell BK289.out 4).trans rfl, ((HB.out.cell (World.block_lt_of_cell? w _ hw300_0)).trans hw300_0), ((HB.out.cell (World.block_lt_of_cell? w _ hw300_1)).trans hw300_1), ((HB.out.cell (World.block_lt_of_cell? w _ hw300_2)).trans hw300_2)⟩ (fun hHeld => ?_)
                          clear hK K
                          refine nm (some 67) ?_
                          refine on1 (i := 11) (N := some 69) (lk 13 4095) (fun K hK => ?_)
                          refine Kd.R_lit_step (Kd.int .i64) _ 3 ?hg (N := 69) ?hd (xs := ([t301, (wrap64 (a2_4 * a2_5))] : List Int)) (inner := [.int .i64 t301, .int .i64 (wrap64 (a2_4 * a2_5))]) (ok := fun _ => True) (okp := fun _ => True) ?hr ?hp (fun _ hk => hk) trivial (Below.refl _ _) (Nat.le_refl _) (by simp) ?_; (case hd => rfl); (case hg => rfl); (case hr => first | (go_simp; done) | (go_simp; rfl)); (case hp => exact (Reps.one (show Kd.M (Kd.int .i64) _ _ _ t301 [.int .i64 t301] from rfl) (Reps.one (show Kd.M (Kd.int .i64) _ _ _ (wrap64 (a2_4 * a2_5)) [.int .i64 (wrap64 (a2_4 * a2_5))] from rfl) (Reps.none _ _))))
                          intro v303 w39 ho40 hb hg_ hnew_
                          clear hg_ hnew_
                          (first | rw [← Ny302.out] at ho40 | (simp only [Int.reduceToNat] at ho40; rw [← Ny302.out] at ho40))
                          have n0_ := Aside0.mk (Kd.R_below (by (with_reducible repeat (first | apply Kd.R_alloc | apply Kd.R_drewN | apply Kd.R_drew)); exact HO_45.out) hb)
                          have n1_ := Aside0.mk (Kd.R_lower ho40 (below_size (by repeat (first | (with_reducible first | exact HB.out | apply below_alloc | apply pw_below_drewN | apply below_drew1 | refine below_set ?_ GE289.out | refine below_set ?_ GE290.out) | exact HB.out))))
                          have n2_ := Aside0.mk (blk_below (g := gb289) (o := .cells #[.slice A0_0 l0_0.length c0_0, .slice A0_1 l0_1.length c0_1, .slice (some ad300) l0_2.length c0_2, .slice A0_3 l0_3.length c0_3, .int .u8 a0_4] 28 (0, 0)) (by (with_reducible repeat (first | refine blk_drewN ?_ _ | refine blk_drew ?_ | refine blk_alloc ?_ _)); exact BK289.out) hb)
                          have n3_ := Aside0.mk (blk_below (g := gb290) (o := .cells #[.string a2_0, .string a2_1, .string a2_2, .string a2_3, .int .i64 a2_4, .int .i64 a2_5, .int .i64 a2_6, .slice A2_7 l2_7.length c2_7] 32 (0, 0)) (by (with_reducible repeat (first | refine blk_drewN ?_ _ | refine blk_drew ?_ | refine blk_alloc ?_ _)); exact BK290.out) hb)
                          have n4_ := Aside0.mk (below_step (by repeat (first | (with_reducible first | exact HB.out | apply below_alloc | apply pw_below_drewN | apply below_drew1 | refine below_set ?_ GE289.out | refine below_set ?_ GE290.out) | exact HB.out)) hb)
                          clear HO_45
                          clear BK289
                          clear BK290
                          clear HB
                          have HO_45 := n0_
                          have HO304 := n1_
                          have BK289 := n2_
                          have BK290 := n3_
                          have HB := n4_
                          clear n0_ n1_ n2_ n3_ n4_
                          clear hb ho40
                          obtain ⟨Ao41, co41, eo41⟩ := Kd.R_slice HO304.out
                          (first | subst eo41 | (injection eo41 with f1_ f2_ f3_; have f4_ := f1_.symm; have f5_ := f3_.symm; clear f1_ f2_ f3_; subst f4_; subst f5_))
                          refine hK.out _ _ ⟨(blk_cell BK289.out 0).trans rfl, (blk_cell BK289.out 1).trans rfl, (blk_cell BK289.out 2).trans rfl, (blk_cell BK289.out 3).trans rfl, (blk_cell BK289.out 4).trans rfl, ((HB.out.cell (World.block_lt_of_cell? w _ hw300_0)).trans hw300_0), ((HB.out.cell (World.block_lt_of_cell? w _ hw300_1)).trans hw300_1), ((HB.out.cell (World.block_lt_of_cell? w _ hw300_2)).trans hw300_2)⟩ (fun hHeld => ?_)
                          clear hK K
                          refine nm (some 69) ?_
                          refine on1 (i := 12) (N := some 70) (lk 13 8191) (fun K hK => ?_)
                          refine goes_ Try.func43 (by kernel_rfl) rfl #[.int .i64 ((rd_T57 l0_2 t298).f2), .slice Ao41 y302.length co41] (by rfl) rfl rfl (by (try simp only [List.map_toArray, List.map_cons, List.map_nil]); first | done | rfl | (simp only [List.length_drop, List.length_take]; rfl)) ?_
                          with_reducible refine (quota_above.calls k2 ((rd_T57 l0_2 t298).f2) _ _ y302 true _ ?side1 ?side2 A32.out).mono ?_
                          (case side1 => repeat (first | exact (Kd.R_reads' HO304.out).2.2 | (with_reducible refine Kd.C_alloc ?_ _) | (with_reducible refine Kd.C_drewN ?_ _) | (with_reducible refine Kd.C_drew ?_)))
                          (case side2 => exact (Kd.R_reads' HO304.out).2.1)
                          rintro e w' ⟨rfl, ⟨nd, rfl⟩⟩
                          refine ⟨_, rfl, ?_⟩
                          refine hK.out _ _ ⟨(blk_cell BK289.out 0).trans rfl, (blk_cell BK289.out 1).trans rfl, (blk_cell BK289.out 2).trans rfl, (blk_cell BK289.out 3).trans rfl, (blk_cell BK289.out 4).trans rfl, ((HB.out.cell (World.block_lt_of_cell? w _ hw300_0)).trans hw300_0), ((HB.out.cell (World.block_lt_of_cell? w _ hw300_1)).trans hw300_1), ((HB.out.cell (World.block_lt_of_cell? w _ hw300_2)).trans hw300_2)⟩ (fun hHeld => ?_)
                          clear hK K
                          refine nm (some 70) ?_
                          refine done_ (done_of HT_.out (by kernel_rfl)) ?_
                          try go_wp2
                          go_ret
                          exact ⟨by first | rfl | (simp [errW_none, errW_some] <;> rfl) | (simp [*, errW_none, errW_some] <;> rfl), by repeat (first | (with_reducible first | exact HB.out | apply below_alloc | apply pw_below_drewN | apply below_drew1 | refine below_set ?_ GE289.out | refine below_set ?_ GE290.out) | exact HB.out)⟩
                        · replace c33 := Bool.eq_false_iff.mpr c33
                          subst c33
                          have H1 : (quota_May.l0 k2 l1 t296 (wrap64 (a2_4 * a2_5)) t292 (t292.length : Int) (wrap64 (x47_2 + 1)) l0_0 l0_1 l0_2 l0_3 a0_4 a2_0 a2_1 a2_2 a2_3 a2_4 a2_5 a2_6 l2_7) = some r := by rw [if_neg (show ¬ (false = true) by decide)] at H; exact H
                          clear H
                          have H := H1
                          clear H1
                          have H' := Aside0.mk H
                          clear H
                          have p297 : 0 ≤ (x47_2 : Int) := of_decide_eq_true (by first | (with_reducible assumption) | assumption)
                          have q297 : x47_2 < (t292.length : Int) := of_decide_eq_true (by first | (with_reducible assumption) | assumption)
                          obtain ⟨ad297, e297, hx297_0⟩ := Kd.at_string (Kd.R_reads' HO_45.out).2.2 x47_2 p297 q297
                          cases e297
                          replace p297 := eq_true p297
                          replace q297 := eq_true q297
                          have hnb42 := NB289_290.out
                          have hnc42 := NB290_289.out
                          have hcz43_0 : wr.cell? ⟨gb289, 0, none⟩ = some (.slice A0_0 l0_0.length c0_0) := (blk_cell BK289.out 0).trans rfl
                          have hcz43_1 : wr.cell? ⟨gb289, 1, none⟩ = some (.slice A0_1 l0_1.length c0_1) := (blk_cell BK289.out 1).trans rfl
                          have hcz43_2 : wr.cell? ⟨gb289, 2, none⟩ = some (.slice A0_2 l0_2.length c0_2) := (blk_cell BK289.out 2).trans rfl
                          have hcz43_3 : wr.cell? ⟨gb289, 3, none⟩ = some (.slice A0_3 l0_3.length c0_3) := (blk_cell BK289.out 3).trans rfl
                          have hcz43_4 : wr.cell? ⟨gb289, 4, none⟩ = some (.int .u8 a0_4) := (blk_cell BK289.out 4).trans rfl
                          have hfz43_0 := blk_frozen BK289.out 0
                          have hfz43_1 := blk_frozen BK289.out 1
                          have hfz43_2 := blk_frozen BK289.out 2
                          have hfz43_3 := blk_frozen BK289.out 3
                          have hfz43_4 := blk_frozen BK289.out 4
                          try go_wp2_with (first | ((with_reducible refine gate_callee (f := 28) rfl ?_); refine goesL_ (some 55) rfl rfl Try.func28 (by kernel_rfl) rfl #[.slice A0_2 l0_2.length c0_2, .string (rdOf ByteArray.empty t292 x47_2)] rfl (by (try simp only [List.map_toArray, List.map_cons, List.map_nil]); first | done | rfl | (simp only [List.length_drop, List.length_take]; rfl)) ?_; (with_reducible refine (tree_Find.calls _ _ l0_2 (rdOf ByteArray.empty t292 x47_2) t298 t299 _ ?side1 ?side2 A28.out).mono ?_); (case side1 => repeat (first | exact (Kd.C_below HR0_2.out HB.out) | (with_reducible refine Kd.C_alloc ?_ _) | (with_reducible refine Kd.C_drewN ?_ _) | (with_reducible refine Kd.C_drew ?_))); (case side2 => exact HC0_2.out); rintro e w44 ⟨rfl, hb⟩; refine ⟨_, rfl, ?_⟩; have n0_ := Aside0.mk (Kd.R_below (by (with_reducible repeat (first | apply Kd.R_alloc | apply Kd.R_drewN | apply Kd.R_drew)); exact HO_45.out) hb); have n1_ := Aside0.mk (blk_below (g := gb289) (o := .cells #[.slice A0_0 l0_0.length c0_0, .slice A0_1 l0_1.length c0_1, .slice A0_2 l0_2.length c0_2, .slice A0_3 l0_3.length c0_3, .int .u8 a0_4] 28 (0, 0)) (by (with_reducible repeat (first | refine blk_drewN ?_ _ | refine blk_drew ?_ | refine blk_alloc ?_ _)); exact BK289.out) hb); have n2_ := Aside0.mk (blk_below (g := gb290) (o := .cells #[.string a2_0, .string a2_1, .string a2_2, .string a2_3, .int .i64 a2_4, .int .i64 a2_5, .int .i64 a2_6, .slice A2_7 l2_7.length c2_7] 32 (0, 0)) (by (with_reducible repeat (first | refine blk_drewN ?_ _ | refine blk_drew ?_ | refine blk_alloc ?_ _)); exact BK290.out) hb); have n3_ := Aside0.mk (below_step (by repeat (first | (with_reducible first | exact HB.out | apply below_alloc | apply pw_below_drewN | apply below_drew1 | refine below_set ?_ GE289.out | refine below_set ?_ GE290.out) | exact HB.out)) hb); clear HO_45; clear BK289; clear BK290; clear HB; have HO_45 := n0_; have BK289 := n1_; have BK290 := n2_; have HB := n3_; clear n0_ n1_ n2_ n3_; (try clear hb); (try clear hb2); (try clear hk); (try clear hi)))
                          have n0_ := Aside0.mk (Kd.R_drew HO_45.out)
                          have n1_ := Aside0.mk (blk_drew BK289.out)
                          have n2_ := Aside0.mk (blk_drew BK290.out)
                          have n3_ := Aside0.mk (below_drew1 HB.out)
                          clear HO_45
                          clear BK289
                          clear BK290
                          clear HB
                          have HO_45 := n0_
                          have BK289 := n1_
                          have BK290 := n2_
                          have HB := n3_
                          clear n0_ n1_ n2_ n3_
                          have p300 : 0 ≤ (t298 : Int) := of_decide_eq_true (by first | (with_reducible assumption) | assumption)
                          have q300 : t298 < (l0_2.length : Int) := of_decide_eq_true (by first | (with_reducible assumption) | assumption)
                          obtain ⟨ad300, e300, hx300_0, hx300_1, hx300_2⟩ := at_T57 HR0_2.out t298 p300 q300
                          have hw300_2 := hx300_2
                          have hw300_1 := hx300_1
                          have hw300_0 := hx300_0
                          cases e300
                          replace hx300_0 := (HB.out.cell (World.block_lt_of_cell? w _ hx300_0)).trans hx300_0
                          replace hx300_1 := (HB.out.cell (World.block_lt_of_cell? w _ hx300_1)).trans hx300_1
                          replace hx300_2 := (HB.out.cell (World.block_lt_of_cell? w _ hx300_2)).trans hx300_2
                          replace p300 := eq_true p300
                          replace q300 := eq_true q300
                          refine start_ (n := 13) (S := fun w' => w'.cell? ⟨gb289, 0, none⟩ = some (.slice A0_0 l0_0.length c0_0) ∧ w'.cell? ⟨gb289, 1, none⟩ = some (.slice A0_1 l0_1.length c0_1) ∧ w'.cell? ⟨gb289, 2, none⟩ = some (.slice (some ad300) l0_2.length c0_2) ∧ w'.cell? ⟨gb289, 3, none⟩ = some (.slice A0_3 l0_3.length c0_3) ∧ w'.cell? ⟨gb289, 4, none⟩ = some (.int .u8 a0_4) ∧ w'.cell? (ad300.add ((t298).toNat * 3)) = some (.string ((rd_T57 l0_2 t298).f0)) ∧ w'.cell? ⟨(ad300.add ((t298).toNat * 3)).block, (ad300.add ((t298).toNat * 3)).off + 1, none⟩ = some (.string ((rd_T57 l0_2 t298).f1)) ∧ w'.cell? ⟨(ad300.add ((t298).toNat * 3)).block, (ad300.add ((t298).toNat * 3)).off + 2, none⟩ = some (.int .i64 ((rd_T57 l0_2 t298).f2))) (ds := []) (lk 13 0) (by kernel_rfl) rfl rfl ⟨(blk_cell BK289.out 0).trans rfl, (blk_cell BK289.out 1).trans rfl, (blk_cell BK289.out 2).trans rfl, (blk_cell BK289.out 3).trans rfl, (blk_cell BK289.out 4).trans rfl, ((HB.out.cell (World.block_lt_of_cell? w _ hw300_0)).trans hw300_0), ((HB.out.cell (World.block_lt_of_cell? w _ hw300_1)).trans hw300_1), ((HB.out.cell (World.block_lt_of_cell? w _ hw300_2)).trans hw300_2)⟩ (fun hHeld => ?_); refine with_tabW quota_May.tab12 quota_May.bits12 (fun HT_ HW_ => ?_)
                          generalize w44.drew = w45 at HO_45 BK289 BK290 HB hx300_0 hx300_1 hx300_2 hHeld ⊢
                          refine pu (i := 0) (N := some 58) (lk 13 1) ?_
                          refine pu (i := 2) (N := some 60) (lk 13 5) ?_
                          refine pu (i := 7) (N := some 65) (lk 13 133) ?_
                          refine pu (i := 8) (N := some 66) (lk 13 389) ?_
                          refine pu (i := 10) (N := some 68) (lk 13 1413) ?_
                          refine tk8 (i := 1) (N := some 59) (lk 13 1415) ?_
                          refine pu (i := 3) (N := some 61) (lk 13 1423) ?_
                          refine pu (i := 4) (N := some 62) (lk 13 1439) ?_
                          refine tk8 (i := 5) (N := some 63) (lk 13 1471) ?_
                          refine tk8 (i := 6) (N := some 64) (lk 13 1535) ?_
                          refine on1 (i := 9) (N := some 67) (lk 13 2047) (fun K hK => ?_)
                          refine goes_ Try.func29 (by kernel_rfl) rfl #[.agg #[.slice A0_0 l0_0.length c0_0, .slice A0_1 l0_1.length c0_1, .slice (some ad300) l0_2.length c0_2, .slice A0_3 l0_3.length c0_3, .int .u8 a0_4], .slice A1 l1.length c1, .string (rdOf ByteArray.empty t292 x47_2)] (by rfl) rfl rfl (by (try simp only [List.map_toArray, List.map_cons, List.map_nil]); first | done | rfl | (simp only [List.length_drop, List.length_take]; rfl)) ?_
                          with_reducible refine (quota_used.calls _ _ l0_0 _ _ l0_1 _ _ l0_2 _ _ l0_3 a0_4 _ _ l1 (rdOf ByteArray.empty t292 x47_2) t301 _ ?side1 ?side2 ?side3 ?side4 ?side5 ?side6 ?side7 ?side8 ?side9 ?side10 A31.out).mono ?_
                          (case side1 => repeat (first | exact (Kd.C_below HR0_0.out HB.out) | (with_reducible refine Kd.C_alloc ?_ _) | (with_reducible refine Kd.C_drewN ?_ _) | (with_reducible refine Kd.C_drew ?_)))
                          (case side2 => exact HC0_0.out)
                          (case side3 => repeat (first | exact (Kd.C_below HR0_1.out HB.out) | (with_reducible refine Kd.C_alloc ?_ _) | (with_reducible refine Kd.C_drewN ?_ _) | (with_reducible refine Kd.C_drew ?_)))
                          (case side4 => exact HC0_1.out)
                          (case side5 => repeat (first | exact (Kd.C_below HR0_2.out HB.out) | (with_reducible refine Kd.C_alloc ?_ _) | (with_reducible refine Kd.C_drewN ?_ _) | (with_reducible refine Kd.C_drew ?_)))
                          (case side6 => exact HC0_2.out)
                          (case side7 => repeat (first | exact (Kd.C_below HR0_3.out HB.out) | (with_reducible refine Kd.C_alloc ?_ _) | (with_reducible refine Kd.C_drewN ?_ _) | (with_reducible refine Kd.C_drew ?_)))
                          (case side8 => exact HC0_3.out)
                          (case side9 => repeat (first | exact (Kd.C_below HR1.out HB.out) | (with_reducible refine Kd.C_alloc ?_ _) | (with_reducible refine Kd.C_drewN ?_ _) | (with_reducible refine Kd.C_drew ?_)))
                          (case side10 => exact HC1.out)
                          rintro e w46 ⟨rfl, hb⟩
                          refine ⟨_, rfl, ?_⟩
                          have n0_ := Aside0.mk (Kd.R_below (by (with_reducible repeat (first | apply Kd.R_alloc | apply Kd.R_drewN | apply Kd.R_drew)); exact HO_45.out) hb)
                          have n1_ := Aside0.mk (blk_below (g := gb289) (o := .cells #[.slice A0_0 l0_0.length c0_0, .slice A0_1 l0_1.length c0_1, .slice (some ad300) l0_2.length c0_2, .slice A0_3 l0_3.length c0_3, .int .u8 a0_4] 28 (0, 0)) (by (with_reducible repeat (first | refine blk_drewN ?_ _ | refine blk_drew ?_ | refine blk_alloc ?_ _)); exact BK289.out) hb)
                          have n2_ := Aside0.mk (blk_below (g := gb290) (o := .cells #[.string a2_0, .string a2_1, .string a2_2, .string a2_3, .int .i64 a2_4, .int .i64 a2_5, .int .i64 a2_6, .slice A2_7 l2_7.length c2_7] 32 (0, 0)) (by (with_reducible repeat (first | refine blk_drewN ?_ _ | refine blk_drew ?_ | refine blk_alloc ?_ _)); exact BK290.out) hb)
                          have n3_ := Aside0.mk (below_step (by repeat (first | (with_reducible first | exact HB.out | apply below_alloc | apply pw_below_drewN | apply below_drew1 | refine below_set ?_ GE289.out | refine below_set ?_ GE290.out) | exact HB.out)) hb)
                          clear HO_45
                          clear BK289
                          clear BK290
                          clear HB
                          have HO_45 := n0_
                          have BK289 := n1_
                          have BK290 := n2_
                          have HB := n3_
                          clear n0_ n1_ n2_ n3_
                          (try clear hb)
                          (try clear hb2)
                          (try clear hk)
                          (try clear hi)
                          refine hK.out _ _ ⟨(blk_cell BK289.out 0).trans rfl, (blk_cell BK289.out 1).trans rfl, (blk_cell BK289.out 2).trans rfl, (blk_cell BK289.out 3).trans rfl, (blk_cell BK289.out 4).trans rfl, ((HB.out.cell (World.block_lt_of_cell? w _ hw300_0)).trans hw300_0), ((HB.out.cell (World.block_lt_of_cell? w _ hw300_1)).trans hw300_1), ((HB.out.cell (World.block_lt_of_cell? w _ hw300_2)).trans hw300_2)⟩ (fun hHeld => ?_)
                          clear hK K
                          refine nm (some 67) ?_
                          refine on1 (i := 11) (N := some 69) (lk 13 4095) (fun K hK => ?_)
                          refine Kd.R_lit_step (Kd.int .i64) _ 3 ?hg (N := 69) ?hd (xs := ([t301, (wrap64 (a2_4 * a2_5))] : List Int)) (inner := [.int .i64 t301, .int .i64 (wrap64 (a2_4 * a2_5))]) (ok := fun _ => True) (okp := fun _ => True) ?hr ?hp (fun _ hk => hk) trivial (Below.refl _ _) (Nat.le_refl _) (by simp) ?_; (case hd => rfl); (case hg => rfl); (case hr => first | (go_simp; done) | (go_simp; rfl)); (case hp => exact (Reps.one (show Kd.M (Kd.int .i64) _ _ _ t301 [.int .i64 t301] from rfl) (Reps.one (show Kd.M (Kd.int .i64) _ _ _ (wrap64 (a2_4 * a2_5)) [.int .i64 (wrap64 (a2_4 * a2_5))] from rfl) (Reps.none _ _))))
                          intro v303 w47 ho48 hb hg_ hnew_
                          clear hg_ hnew_
                          (first | rw [← Ny302.out] at ho48 | (simp only [Int.reduceToNat] at ho48; rw [← Ny302.out] at ho48))
                          have n0_ := Aside0.mk (Kd.R_below (by (with_reducible repeat (first | apply Kd.R_alloc | apply Kd.R_drewN | apply Kd.R_drew)); exact HO_45.out) hb)
                          have n1_ := Aside0.mk (Kd.R_lower ho48 (below_size (by repeat (first | (with_reducible first | exact HB.out | apply below_alloc | apply pw_below_drewN | apply below_drew1 | refine below_set ?_ GE289.out | refine below_set ?_ GE290.out) | exact HB.out))))
                          have n2_ := Aside0.mk (blk_below (g := gb289) (o := .cells #[.slice A0_0 l0_0.length c0_0, .slice A0_1 l0_1.length c0_1, .slice (some ad300) l0_2.length c0_2, .slice A0_3 l0_3.length c0_3, .int .u8 a0_4] 28 (0, 0)) (by (with_reducible repeat (first | refine blk_drewN ?_ _ | refine blk_drew ?_ | refine blk_alloc ?_ _)); exact BK289.out) hb)
                          have n3_ := Aside0.mk (blk_below (g := gb290) (o := .cells #[.string a2_0, .string a2_1, .string a2_2, .string a2_3, .int .i64 a2_4, .int .i64 a2_5, .int .i64 a2_6, .slice A2_7 l2_7.length c2_7] 32 (0, 0)) (by (with_reducible repeat (first | refine blk_drewN ?_ _ | refine blk_drew ?_ | refine blk_alloc ?_ _)); exact BK290.out) hb)
                          have n4_ := Aside0.mk (below_step (by repeat (first | (with_reducible first | exact HB.out | apply below_alloc | apply pw_below_drewN | apply below_drew1 | refine below_set ?_ GE289.out | refine below_set ?_ GE290.out) | exact HB.out)) hb)
                          clear HO_45
                          clear BK289
                          clear BK290
                          clear HB
                          have HO_45 := n0_
                          have HO304 := n1_
                          have BK289 := n2_
                          have BK290 := n3_
                          have HB := n4_
                          clear n0_ n1_ n2_ n3_ n4_
                          clear hb ho48
                          obtain ⟨Ao49, co49, eo49⟩ := Kd.R_slice HO304.out
                          (first | subst eo49 | (injection eo49 with f1_ f2_ f3_; have f4_ := f1_.symm; have f5_ := f3_.symm; clear f1_ f2_ f3_; subst f4_; subst f5_))
                          refine hK.out _ _ ⟨(blk_cell BK289.out 0).trans rfl, (blk_cell BK289.out 1).trans rfl, (blk_cell BK289.out 2).trans rfl, (blk_cell BK289.out 3).trans rfl, (blk_cell BK289.out 4).trans rfl, ((HB.out.cell (World.block_lt_of_cell? w _ hw300_0)).trans hw300_0), ((HB.out.cell (World.block_lt_of_cell? w _ hw300_1)).trans hw300_1), ((HB.out.cell (World.block_lt_of_cell? w _ hw300_2)).trans hw300_2)⟩ (fun hHeld => ?_)
                          clear hK K
                          refine nm (some 69) ?_
                          refine on1 (i := 12) (N := some 70) (lk 13 8191) (fun K hK => ?_)
                          refine goes_ Try.func43 (by kernel_rfl) rfl #[.int .i64 ((rd_T57 l0_2 t298).f2), .slice Ao49 y302.length co49] (by rfl) rfl rfl (by (try simp only [List.map_toArray, List.map_cons, List.map_nil]); first | done | rfl | (simp only [List.length_drop, List.length_take]; rfl)) ?_
                          with_reducible refine (quota_above.calls k2 ((rd_T57 l0_2 t298).f2) _ _ y302 false _ ?side1 ?side2 A32.out).mono ?_
                          (case side1 => repeat (first | exact (Kd.R_reads' HO304.out).2.2 | (with_reducible refine Kd.C_alloc ?_ _) | (with_reducible refine Kd.C_drewN ?_ _) | (with_reducible refine Kd.C_drew ?_)))
                          (case side2 => exact (Kd.R_reads' HO304.out).2.1)
                          rintro e w' ⟨rfl, ⟨nd, rfl⟩⟩
                          refine ⟨_, rfl, ?_⟩
                          refine hK.out _ _ ⟨(blk_cell BK289.out 0).trans rfl, (blk_cell BK289.out 1).trans rfl, (blk_cell BK289.out 2).trans rfl, (blk_cell BK289.out 3).trans rfl, (blk_cell BK289.out 4).trans rfl, ((HB.out.cell (World.block_lt_of_cell? w _ hw300_0)).trans hw300_0), ((HB.out.cell (World.block_lt_of_cell? w _ hw300_1)).trans hw300_1), ((HB.out.cell (World.block_lt_of_cell? w _ hw300_2)).trans hw300_2)⟩ (fun hHeld => ?_)
                          clear hK K
                          refine nm (some 70) ?_
                          refine done_ (done_of HT_.out (by kernel_rfl)) ?_
                          try go_wp2
                          go_roundg k2
                          case measure => have := HJ7.out; have := HK2.out; omega
                          case rel => exact ⟨(wrap64 (x47_2 + 1)), (by first | rfl | (simp; done) | (simp [*]; done)), H', ⟨by have := HJ7.out; have := HK2.out; omega⟩, ⟨by (with_reducible repeat (first | apply Kd.R_alloc | apply Kd.R_drewN | apply Kd.R_drew)); exact HO_45.out⟩, ⟨by (with_reducible repeat (first | refine blk_drewN ?_ _ | refine blk_drew ?_ | refine blk_alloc ?_ _)); exact BK289.out⟩, ⟨by (with_reducible repeat (first | refine blk_drewN ?_ _ | refine blk_drew ?_ | refine blk_alloc ?_ _)); exact BK290.out⟩, ⟨by repeat (first | (with_reducible first | exact HB.out | apply below_alloc | apply pw_below_drewN | apply below_drew1 | refine below_set ?_ GE289.out | refine below_set ?_ GE290.out) | exact HB.out)⟩⟩
                      · rw [if_neg c30] at H
                        exact absurd H (by simp)
                    · rw [if_neg c29] at H
                      exact absurd H (by simp)
                  · rw [if_neg c27] at H
                    exact absurd H (by simp)
                · rw [if_neg c26] at H
                  exact absurd H (by simp)
              · rw [if_neg c25] at H
                have c25b0 : decide (x47_2 < (t292.length : Int)) = false := decide_eq_false c25
                clear c25
                replace H := Option.bind_eq_some_iff.mp H
                obtain ⟨⟨t306, t307, t308⟩, A500, H⟩ := H
                replace H : (if 0 ≤ t296 then (if t296 < (l0_3.length : Int) then ((quota_above.f k2 ((rd_T59 l0_3 t296).f2) (([t306, (wrap64 (a2_4 * a2_5))] : List Int))).bind fun t313 => (if t313 = true then (some 150) else ((quota_above.f k2 ((rd_T59 l0_3 t296).f3) (([t307, 1] : List Int))).bind fun t318 => (if t318 = true then (some 150) else (some 0))))) else (none)) else (none)) = some r := H
                have A50 := Aside0.mk A500
                clear A500
                by_cases c51 : 0 ≤ t296
                · rw [if_pos c51] at H
                  have c51b0 : decide (0 ≤ t296) = true := decide_eq_true c51
                  clear c51
                  by_cases c52 : t296 < (l0_3.length : Int)
                  · rw [if_pos c52] at H
                    have c52b0 : decide (t296 < (l0_3.length : Int)) = true := decide_eq_true c52
                    clear c52
                    obtain ⟨y310, hy310⟩ : ∃ y_ : List Int, y_ = (([t306, (wrap64 (a2_4 * a2_5))] : List Int)) := ⟨_, rfl⟩
                    replace H : ((quota_above.f k2 ((rd_T59 l0_3 t296).f2) y310).bind fun t313 => (if t313 = true then (some 150) else ((quota_above.f k2 ((rd_T59 l0_3 t296).f3) (([t307, 1] : List Int))).bind fun t318 => (if t318 = true then (some 150) else (some 0))))) = some r := by first | (rw [hy310]; with_reducible exact H) | (have H2_ := (Option.bind_some _ _).symm.trans H; rw [hy310]; with_reducible exact H2_) | (have H2_ := (Option.bind_some _ _).symm.trans H; with_reducible exact H2_) | with_reducible exact H | (rw [hy310]; exact H) | exact H
                    have Ny310 := Aside0.mk hy310
                    clear hy310
                    replace H := Option.bind_eq_some_iff.mp H
                    obtain ⟨t313, A530, H⟩ := H
                    replace H : (if t313 = true then (some 150) else ((quota_above.f k2 ((rd_T59 l0_3 t296).f3) (([t307, 1] : List Int))).bind fun t318 => (if t318 = true then (some 150) else (some 0)))) = some r := H
                    have A53 := Aside0.mk A530
                    clear A530
                    by_cases c54 : t313 = true
                    · subst c54
                      have H1 : (some 150) = some r := by rw [if_pos rfl] at H; exact H
                      clear H
                      have H := H1
                      clear H1
                      obtain rfl := Option.some.inj H
                      have hnb55 := NB289_290.out
                      have hnc55 := NB290_289.out
                      have hcz56_0 : wr.cell? ⟨gb289, 0, none⟩ = some (.slice A0_0 l0_0.length c0_0) := (blk_cell BK289.out 0).trans rfl
                      have hcz56_1 : wr.cell? ⟨gb289, 1, none⟩ = some (.slice A0_1 l0_1.length c0_1) := (blk_cell BK289.out 1).trans rfl
                      have hcz56_2 : wr.cell? ⟨gb289, 2, none⟩ = some (.slice A0_2 l0_2.length c0_2) := (blk_cell BK289.out 2).trans rfl
                      have hcz56_3 : wr.cell? ⟨gb289, 3, none⟩ = some (.slice A0_3 l0_3.length c0_3) := (blk_cell BK289.out 3).trans rfl
                      have hcz56_4 : wr.cell? ⟨gb289, 4, none⟩ = some (.int .u8 a0_4) := (blk_cell BK289.out 4).trans rfl
                      have hfz56_0 := blk_frozen BK289.out 0
                      have hfz56_1 := blk_frozen BK289.out 1
                      have hfz56_2 := blk_frozen BK289.out 2
                      have hfz56_3 := blk_frozen BK289.out 3
                      have hfz56_4 := blk_frozen BK289.out 4
                      have hcz57_0 : wr.cell? ⟨gb290, 0, none⟩ = some (.string a2_0) := (blk_cell BK290.out 0).trans rfl
                      have hcz57_1 : wr.cell? ⟨gb290, 1, none⟩ = some (.string a2_1) := (blk_cell BK290.out 1).trans rfl
                      have hcz57_2 : wr.cell? ⟨gb290, 2, none⟩ = some (.string a2_2) := (blk_cell BK290.out 2).trans rfl
                      have hcz57_3 : wr.cell? ⟨gb290, 3, none⟩ = some (.string a2_3) := (blk_cell BK290.out 3).trans rfl
                      have hcz57_4 : wr.cell? ⟨gb290, 4, none⟩ = some (.int .i64 a2_4) := (blk_cell BK290.out 4).trans rfl
                      have hcz57_5 : wr.cell? ⟨gb290, 5, none⟩ = some (.int .i64 a2_5) := (blk_cell BK290.out 5).trans rfl
                      have hcz57_6 : wr.cell? ⟨gb290, 6, none⟩ = some (.int .i64 a2_6) := (blk_cell BK290.out 6).trans rfl
                      have hcz57_7 : wr.cell? ⟨gb290, 7, none⟩ = some (.slice A2_7 l2_7.length c2_7) := (blk_cell BK290.out 7).trans rfl
                      have hfz57_0 := blk_frozen BK290.out 0
                      have hfz57_1 := blk_frozen BK290.out 1
                      have hfz57_2 := blk_frozen BK290.out 2
                      have hfz57_3 := blk_frozen BK290.out 3
                      have hfz57_4 := blk_frozen BK290.out 4
                      have hfz57_5 := blk_frozen BK290.out 5
                      have hfz57_6 := blk_frozen BK290.out 6
                      have hfz57_7 := blk_frozen BK290.out 7
                      go_wp2_with (first | ((with_reducible refine gate_callee (f := 13) rfl ?_); refine goesL_ (some 77) rfl rfl Try.func13 (by kernel_rfl) rfl #[.agg #[.slice A0_0 l0_0.length c0_0, .slice A0_1 l0_1.length c0_1, .slice A0_2 l0_2.length c0_2, .slice A0_3 l0_3.length c0_3, .int .u8 a0_4], .slice A1 l1.length c1, .string a2_2] rfl (by (try simp only [List.map_toArray, List.map_cons, List.map_nil]); first | done | rfl | (simp only [List.length_drop, List.length_take]; rfl)) ?_; (with_reducible refine (quota_Qos.calls _ _ l0_0 _ _ l0_1 _ _ l0_2 _ _ l0_3 a0_4 _ _ l1 a2_2 t306 t307 t308 _ ?side1 ?side2 ?side3 ?side4 ?side5 ?side6 ?side7 ?side8 ?side9 ?side10 A50.out).mono ?_); (case side1 => repeat (first | exact (Kd.C_below HR0_0.out HB.out) | (with_reducible refine Kd.C_alloc ?_ _) | (with_reducible refine Kd.C_drewN ?_ _) | (with_reducible refine Kd.C_drew ?_))); (case side2 => exact HC0_0.out); (case side3 => repeat (first | exact (Kd.C_below HR0_1.out HB.out) | (with_reducible refine Kd.C_alloc ?_ _) | (with_reducible refine Kd.C_drewN ?_ _) | (with_reducible refine Kd.C_drew ?_))); (case side4 => exact HC0_1.out); (case side5 => repeat (first | exact (Kd.C_below HR0_2.out HB.out) | (with_reducible refine Kd.C_alloc ?_ _) | (with_reducible refine Kd.C_drewN ?_ _) | (with_reducible refine Kd.C_drew ?_))); (case side6 => exact HC0_2.out); (case side7 => repeat (first | exact (Kd.C_below HR0_3.out HB.out) | (with_reducible refine Kd.C_alloc ?_ _) | (with_reducible refine Kd.C_drewN ?_ _) | (with_reducible refine Kd.C_drew ?_))); (case side8 => exact HC0_3.out); (case side9 => repeat (first | exact (Kd.C_below HR1.out HB.out) | (with_reducible refine Kd.C_alloc ?_ _) | (with_reducible refine Kd.C_drewN ?_ _) | (with_reducible refine Kd.C_drew ?_))); (case side10 => exact HC1.out); rintro e w58 ⟨rfl, hb⟩; refine ⟨_, rfl, ?_⟩; have n0_ := Aside0.mk (Kd.R_below (by (with_reducible repeat (first | apply Kd.R_alloc | apply Kd.R_drewN | apply Kd.R_drew)); exact HO_45.out) hb); have n1_ := Aside0.mk (blk_below (g := gb289) (o := .cells #[.slice A0_0 l0_0.length c0_0, .slice A0_1 l0_1.length c0_1, .slice A0_2 l0_2.length c0_2, .slice A0_3 l0_3.length c0_3, .int .u8 a0_4] 28 (0, 0)) (by (with_reducible repeat (first | refine blk_drewN ?_ _ | refine blk_drew ?_ | refine blk_alloc ?_ _)); exact BK289.out) hb); have n2_ := Aside0.mk (blk_below (g := gb290) (o := .cells #[.string a2_0, .string a2_1, .string a2_2, .string a2_3, .int .i64 a2_4, .int .i64 a2_5, .int .i64 a2_6, .slice A2_7 l2_7.length c2_7] 32 (0, 0)) (by (with_reducible repeat (first | refine blk_drewN ?_ _ | refine blk_drew ?_ | refine blk_alloc ?_ _)); exact BK290.out) hb); have n3_ := Aside0.mk (below_step (by repeat (first | (with_reducible first | exact HB.out | apply below_alloc | apply pw_below_drewN | apply below_drew1 | refine below_set ?_ GE289.out | refine below_set ?_ GE290.out) | exact HB.out)) hb); clear HO_45; clear BK289; clear BK290; clear HB; have HO_45 := n0_; have BK289 := n1_; have BK290 := n2_; have HB := n3_; clear n0_ n1_ n2_ n3_; (try clear hb); (try clear hb2); (try clear hk); (try clear hi); have hcz59_0 : w58.cell? ⟨gb289, 0, none⟩ = some (.slice A0_0 l0_0.length c0_0) := (blk_cell BK289.out 0).trans rfl; have hcz59_1 : w58.cell? ⟨gb289, 1, none⟩ = some (.slice A0_1 l0_1.length c0_1) := (blk_cell BK289.out 1).trans rfl; have hcz59_2 : w58.cell? ⟨gb289, 2, none⟩ = some (.slice A0_2 l0_2.length c0_2) := (blk_cell BK289.out 2).trans rfl; have hcz59_3 : w58.cell? ⟨gb289, 3, none⟩ = some (.slice A0_3 l0_3.length c0_3) := (blk_cell BK289.out 3).trans rfl; have hcz59_4 : w58.cell? ⟨gb289, 4, none⟩ = some (.int .u8 a0_4) := (blk_cell BK289.out 4).trans rfl; have hfz59_0 := blk_frozen BK289.out 0; have hfz59_1 := blk_frozen BK289.out 1; have hfz59_2 := blk_frozen BK289.out 2; have hfz59_3 := blk_frozen BK289.out 3; have hfz59_4 := blk_frozen BK289.out 4; have p309 : 0 ≤ (t296 : Int) := of_decide_eq_true (by first | (with_reducible assumption) | assumption); have q309 : t296 < (l0_3.length : Int) := of_decide_eq_true (by first | (with_reducible assumption) | assumption); obtain ⟨ad309, e309, hx309_0, hx309_1, hx309_2, hx309_3⟩ := at_T59 HR0_3.out t296 p309 q309; cases e309; replace hx309_0 := (HB.out.cell (World.block_lt_of_cell? w _ hx309_0)).trans hx309_0; replace hx309_1 := (HB.out.cell (World.block_lt_of_cell? w _ hx309_1)).trans hx309_1; replace hx309_2 := (HB.out.cell (World.block_lt_of_cell? w _ hx309_2)).trans hx309_2; replace hx309_3 := (HB.out.cell (World.block_lt_of_cell? w _ hx309_3)).trans hx309_3; replace p309 := eq_true p309; replace q309 := eq_true q309) | ((with_reducible refine gate_dst (N := 89) rfl ?_); (try (refine gate_guard (by rfl) ?_; dsimp only)); refine Kd.R_lit (Kd.int .i64) _ 3 ?hg (N := 89) ?hd (xs := ([t306, (wrap64 (a2_4 * a2_5))] : List Int)) (inner := [.int .i64 t306, .int .i64 (wrap64 (a2_4 * a2_5))]) (ok := fun _ => True) (okp := fun _ => True) ?hr ?hp (fun _ hk => hk) trivial (Below.refl _ _) (Nat.le_refl _) (by simp) ?_; (case hd => rfl); (case hg => rfl); (case hr => first | (go_simp; done) | (go_simp; rfl)); (case hp => exact (Reps.one (show Kd.M (Kd.int .i64) _ _ _ t306 [.int .i64 t306] from rfl) (Reps.one (show Kd.M (Kd.int .i64) _ _ _ (wrap64 (a2_4 * a2_5)) [.int .i64 (wrap64 (a2_4 * a2_5))] from rfl) (Reps.none _ _)))); intro v311 w60 ho61 hb hg_ hnew_; clear hg_ hnew_; (first | rw [← Ny310.out] at ho61 | (simp only [Int.reduceToNat] at ho61; rw [← Ny310.out] at ho61)); have n0_ := Aside0.mk (Kd.R_below (by (with_reducible repeat (first | apply Kd.R_alloc | apply Kd.R_drewN | apply Kd.R_drew)); exact HO_45.out) hb); have n1_ := Aside0.mk (Kd.R_lower ho61 (below_size (by repeat (first | (with_reducible first | exact HB.out | apply below_alloc | apply pw_below_drewN | apply below_drew1 | refine below_set ?_ GE289.out | refine below_set ?_ GE290.out) | exact HB.out)))); have n2_ := Aside0.mk (blk_below (g := gb289) (o := .cells #[.slice A0_0 l0_0.length c0_0, .slice A0_1 l0_1.length c0_1, .slice A0_2 l0_2.length c0_2, .slice (some ad309) l0_3.length c0_3, .int .u8 a0_4] 28 (0, 0)) (by (with_reducible repeat (first | refine blk_drewN ?_ _ | refine blk_drew ?_ | refine blk_alloc ?_ _)); exact BK289.out) hb); have n3_ := Aside0.mk (blk_below (g := gb290) (o := .cells #[.string a2_0, .string a2_1, .string a2_2, .string a2_3, .int .i64 a2_4, .int .i64 a2_5, .int .i64 a2_6, .slice A2_7 l2_7.length c2_7] 32 (0, 0)) (by (with_reducible repeat (first | refine blk_drewN ?_ _ | refine blk_drew ?_ | refine blk_alloc ?_ _)); exact BK290.out) hb); have n4_ := Aside0.mk (below_step (by repeat (first | (with_reducible first | exact HB.out | apply below_alloc | apply pw_below_drewN | apply below_drew1 | refine below_set ?_ GE289.out | refine below_set ?_ GE290.out) | exact HB.out)) hb); clear HO_45; clear BK289; clear BK290; clear HB; have HO_45 := n0_; have HO312 := n1_; have BK289 := n2_; have BK290 := n3_; have HB := n4_; clear n0_ n1_ n2_ n3_ n4_; clear hb ho61; obtain ⟨Ao62, co62, eo62⟩ := Kd.R_slice HO312.out; subst eo62) | ((with_reducible refine gate_callee (f := 43) rfl ?_); refine goesL_ (some 90) rfl rfl Try.func43 (by kernel_rfl) rfl #[.int .i64 ((rd_T59 l0_3 t296).f2), .slice Ao62 y310.length co62] rfl (by (try simp only [List.map_toArray, List.map_cons, List.map_nil]); first | done | rfl | (simp only [List.length_drop, List.length_take]; rfl)) ?_; (with_reducible refine (quota_above.calls k2 ((rd_T59 l0_3 t296).f2) _ _ y310 true _ ?side1 ?side2 A53.out).mono ?_); (case side1 => repeat (first | exact (Kd.R_reads' HO312.out).2.2 | (with_reducible refine Kd.C_alloc ?_ _) | (with_reducible refine Kd.C_drewN ?_ _) | (with_reducible refine Kd.C_drew ?_))); (case side2 => exact (Kd.R_reads' HO312.out).2.1); rintro e w' ⟨rfl, ⟨nd, rfl⟩⟩; refine ⟨_, rfl, ?_⟩))
                      go_ret
                      exact ⟨by first | rfl | (simp [errW_none, errW_some] <;> rfl) | (simp [*, errW_none, errW_some] <;> rfl), by repeat (first | (with_reducible first | exact HB.out | apply below_alloc | apply pw_below_drewN | apply below_drew1 | refine below_set ?_ GE289.out | refine below_set ?_ GE290.out) | exact HB.out)⟩
                    · replace c54 := Bool.eq_false_iff.mpr c54
                      subst c54
                      have H1 : ((quota_above.f k2 ((rd_T59 l0_3 t296).f3) (([t307, 1] : List Int))).bind fun t318 => (if t318 = true then (some 150) else (some 0))) = some r := by rw [if_neg (show ¬ (false = true) by decide)] at H; exact H
                      clear H
                      have H := H1
                      clear H1
                      obtain ⟨y315, hy315⟩ : ∃ y_ : List Int, y_ = (([t307, 1] : List Int)) := ⟨_, rfl⟩
                      replace H : ((quota_above.f k2 ((rd_T59 l0_3 t296).f3) y315).bind fun t318 => (if t318 = true then (some 150) else (some 0))) = some r := by first | (rw [hy315]; with_reducible exact H) | (have H2_ := (Option.bind_some _ _).symm.trans H; rw [hy315]; with_reducible exact H2_) | (have H2_ := (Option.bind_some _ _).symm.trans H; with_reducible exact H2_) | with_reducible exact H | (rw [hy315]; exact H) | exact H
                      have Ny315 := Aside0.mk hy315
                      clear hy315
                      replace H := Option.bind_eq_some_iff.mp H
                      obtain ⟨t318, A630, H⟩ := H
                      replace H : (if t318 = true then (some 150) else (some 0)) = some r := H
                      have A63 := Aside0.mk A630
                      clear A630
                      by_cases c64 : t318 = true
                      · subst c64
                        have H1 : (some 150) = some r := by rw [if_pos rfl] at H; exact H
                        clear H
                        have H := H1
                        clear H1
                        obtain rfl := Option.some.inj H
                        have hnb65 := NB289_290.out
                        have hnc65 := NB290_289.out
                        have hcz66_0 : wr.cell? ⟨gb289, 0, none⟩ = some (.slice A0_0 l0_0.length c0_0) := (blk_cell BK289.out 0).trans rfl
                        have hcz66_1 : wr.cell? ⟨gb289, 1, none⟩ = some (.slice A0_1 l0_1.length c0_1) := (blk_cell BK289.out 1).trans rfl
                        have hcz66_2 : wr.cell? ⟨gb289, 2, none⟩ = some (.slice A0_2 l0_2.length c0_2) := (blk_cell BK289.out 2).trans rfl
                        have hcz66_3 : wr.cell? ⟨gb289, 3, none⟩ = some (.slice A0_3 l0_3.length c0_3) := (blk_cell BK289.out 3).trans rfl
                        have hcz66_4 : wr.cell? ⟨gb289, 4, none⟩ = some (.int .u8 a0_4) := (blk_cell BK289.out 4).trans rfl
                        have hfz66_0 := blk_frozen BK289.out 0
                        have hfz66_1 := blk_frozen BK289.out 1
                        have hfz66_2 := blk_frozen BK289.out 2
                        have hfz66_3 := blk_frozen BK289.out 3
                        have hfz66_4 := blk_frozen BK289.out 4
                        have hcz67_0 : wr.cell? ⟨gb290, 0, none⟩ = some (.string a2_0) := (blk_cell BK290.out 0).trans rfl
                        have hcz67_1 : wr.cell? ⟨gb290, 1, none⟩ = some (.string a2_1) := (blk_cell BK290.out 1).trans rfl
                        have hcz67_2 : wr.cell? ⟨gb290, 2, none⟩ = some (.string a2_2) := (blk_cell BK290.out 2).trans rfl
                        have hcz67_3 : wr.cell? ⟨gb290, 3, none⟩ = some (.string a2_3) := (blk_cell BK290.out 3).trans rfl
                        have hcz67_4 : wr.cell? ⟨gb290, 4, none⟩ = some (.int .i64 a2_4) := (blk_cell BK290.out 4).trans rfl
                        have hcz67_5 : wr.cell? ⟨gb290, 5, none⟩ = some (.int .i64 a2_5) := (blk_cell BK290.out 5).trans rfl
                        have hcz67_6 : wr.cell? ⟨gb290, 6, none⟩ = some (.int .i64 a2_6) := (blk_cell BK290.out 6).trans rfl
                        have hcz67_7 : wr.cell? ⟨gb290, 7, none⟩ = some (.slice A2_7 l2_7.length c2_7) := (blk_cell BK290.out 7).trans rfl
                        have hfz67_0 := blk_frozen BK290.out 0
                        have hfz67_1 := blk_frozen BK290.out 1
                        have hfz67_2 := blk_frozen BK290.out 2
                        have hfz67_3 := blk_frozen BK290.out 3
                        have hfz67_4 := blk_frozen BK290.out 4
                        have hfz67_5 := blk_frozen BK290.out 5
                        have hfz67_6 := blk_frozen BK290.out 6
                        have hfz67_7 := blk_frozen BK290.out 7
                        go_wp2_with (first | ((with_reducible refine gate_callee (f := 13) rfl ?_); refine goesL_ (some 77) rfl rfl Try.func13 (by kernel_rfl) rfl #[.agg #[.slice A0_0 l0_0.length c0_0, .slice A0_1 l0_1.length c0_1, .slice A0_2 l0_2.length c0_2, .slice A0_3 l0_3.length c0_3, .int .u8 a0_4], .slice A1 l1.length c1, .string a2_2] rfl (by (try simp only [List.map_toArray, List.map_cons, List.map_nil]); first | done | rfl | (simp only [List.length_drop, List.length_take]; rfl)) ?_; (with_reducible refine (quota_Qos.calls _ _ l0_0 _ _ l0_1 _ _ l0_2 _ _ l0_3 a0_4 _ _ l1 a2_2 t306 t307 t308 _ ?side1 ?side2 ?side3 ?side4 ?side5 ?side6 ?side7 ?side8 ?side9 ?side10 A50.out).mono ?_); (case side1 => repeat (first | exact (Kd.C_below HR0_0.out HB.out) | (with_reducible refine Kd.C_alloc ?_ _) | (with_reducible refine Kd.C_drewN ?_ _) | (with_reducible refine Kd.C_drew ?_))); (case side2 => exact HC0_0.out); (case side3 => repeat (first | exact (Kd.C_below HR0_1.out HB.out) | (with_reducible refine Kd.C_alloc ?_ _) | (with_reducible refine Kd.C_drewN ?_ _) | (with_reducible refine Kd.C_drew ?_))); (case side4 => exact HC0_1.out); (case side5 => repeat (first | exact (Kd.C_below HR0_2.out HB.out) | (with_reducible refine Kd.C_alloc ?_ _) | (with_reducible refine Kd.C_drewN ?_ _) | (with_reducible refine Kd.C_drew ?_))); (case side6 => exact HC0_2.out); (case side7 => repeat (first | exact (Kd.C_below HR0_3.out HB.out) | (with_reducible refine Kd.C_alloc ?_ _) | (with_reducible refine Kd.C_drewN ?_ _) | (with_reducible refine Kd.C_drew ?_))); (case side8 => exact HC0_3.out); (case side9 => repeat (first | exact (Kd.C_below HR1.out HB.out) | (with_reducible refine Kd.C_alloc ?_ _) | (with_reducible refine Kd.C_drewN ?_ _) | (with_reducible refine Kd.C_drew ?_))); (case side10 => exact HC1.out); rintro e w68 ⟨rfl, hb⟩; refine ⟨_, rfl, ?_⟩; have n0_ := Aside0.mk (Kd.R_below (by (with_reducible repeat (first | apply Kd.R_alloc | apply Kd.R_drewN | apply Kd.R_drew)); exact HO_45.out) hb); have n1_ := Aside0.mk (blk_below (g := gb289) (o := .cells #[.slice A0_0 l0_0.length c0_0, .slice A0_1 l0_1.length c0_1, .slice A0_2 l0_2.length c0_2, .slice A0_3 l0_3.length c0_3, .int .u8 a0_4] 28 (0, 0)) (by (with_reducible repeat (first | refine blk_drewN ?_ _ | refine blk_drew ?_ | refine blk_alloc ?_ _)); exact BK289.out) hb); have n2_ := Aside0.mk (blk_below (g := gb290) (o := .cells #[.string a2_0, .string a2_1, .string a2_2, .string a2_3, .int .i64 a2_4, .int .i64 a2_5, .int .i64 a2_6, .slice A2_7 l2_7.length c2_7] 32 (0, 0)) (by (with_reducible repeat (first | refine blk_drewN ?_ _ | refine blk_drew ?_ | refine blk_alloc ?_ _)); exact BK290.out) hb); have n3_ := Aside0.mk (below_step (by repeat (first | (with_reducible first | exact HB.out | apply below_alloc | apply pw_below_drewN | apply below_drew1 | refine below_set ?_ GE289.out | refine below_set ?_ GE290.out) | exact HB.out)) hb); clear HO_45; clear BK289; clear BK290; clear HB; have HO_45 := n0_; have BK289 := n1_; have BK290 := n2_; have HB := n3_; clear n0_ n1_ n2_ n3_; (try clear hb); (try clear hb2); (try clear hk); (try clear hi); have hcz69_0 : w68.cell? ⟨gb289, 0, none⟩ = some (.slice A0_0 l0_0.length c0_0) := (blk_cell BK289.out 0).trans rfl; have hcz69_1 : w68.cell? ⟨gb289, 1, none⟩ = some (.slice A0_1 l0_1.length c0_1) := (blk_cell BK289.out 1).trans rfl; have hcz69_2 : w68.cell? ⟨gb289, 2, none⟩ = some (.slice A0_2 l0_2.length c0_2) := (blk_cell BK289.out 2).trans rfl; have hcz69_3 : w68.cell? ⟨gb289, 3, none⟩ = some (.slice A0_3 l0_3.length c0_3) := (blk_cell BK289.out 3).trans rfl; have hcz69_4 : w68.cell? ⟨gb289, 4, none⟩ = some (.int .u8 a0_4) := (blk_cell BK289.out 4).trans rfl; have hfz69_0 := blk_frozen BK289.out 0; have hfz69_1 := blk_frozen BK289.out 1; have hfz69_2 := blk_frozen BK289.out 2; have hfz69_3 := blk_frozen BK289.out 3; have hfz69_4 := blk_frozen BK289.out 4; have p309 : 0 ≤ (t296 : Int) := of_decide_eq_true (by first | (with_reducible assumption) | assumption); have q309 : t296 < (l0_3.length : Int) := of_decide_eq_true (by first | (with_reducible assumption) | assumption); obtain ⟨ad309, e309, hx309_0, hx309_1, hx309_2, hx309_3⟩ := at_T59 HR0_3.out t296 p309 q309; cases e309; replace hx309_0 := (HB.out.cell (World.block_lt_of_cell? w _ hx309_0)).trans hx309_0; replace hx309_1 := (HB.out.cell (World.block_lt_of_cell? w _ hx309_1)).trans hx309_1; replace hx309_2 := (HB.out.cell (World.block_lt_of_cell? w _ hx309_2)).trans hx309_2; replace hx309_3 := (HB.out.cell (World.block_lt_of_cell? w _ hx309_3)).trans hx309_3; replace p309 := eq_true p309; replace q309 := eq_true q309) | ((with_reducible refine gate_dst (N := 89) rfl ?_); (try (refine gate_guard (by rfl) ?_; dsimp only)); refine Kd.R_lit (Kd.int .i64) _ 3 ?hg (N := 89) ?hd (xs := ([t306, (wrap64 (a2_4 * a2_5))] : List Int)) (inner := [.int .i64 t306, .int .i64 (wrap64 (a2_4 * a2_5))]) (ok := fun _ => True) (okp := fun _ => True) ?hr ?hp (fun _ hk => hk) trivial (Below.refl _ _) (Nat.le_refl _) (by simp) ?_; (case hd => rfl); (case hg => rfl); (case hr => first | (go_simp; done) | (go_simp; rfl)); (case hp => exact (Reps.one (show Kd.M (Kd.int .i64) _ _ _ t306 [.int .i64 t306] from rfl) (Reps.one (show Kd.M (Kd.int .i64) _ _ _ (wrap64 (a2_4 * a2_5)) [.int .i64 (wrap64 (a2_4 * a2_5))] from rfl) (Reps.none _ _)))); intro v311 w70 ho71 hb hg_ hnew_; clear hg_ hnew_; (first | rw [← Ny310.out] at ho71 | (simp only [Int.reduceToNat] at ho71; rw [← Ny310.out] at ho71)); have n0_ := Aside0.mk (Kd.R_below (by (with_reducible repeat (first | apply Kd.R_alloc | apply Kd.R_drewN | apply Kd.R_drew)); exact HO_45.out) hb); have n1_ := Aside0.mk (Kd.R_lower ho71 (below_size (by repeat (first | (with_reducible first | exact HB.out | apply below_alloc | apply pw_below_drewN | apply below_drew1 | refine below_set ?_ GE289.out | refine below_set ?_ GE290.out) | exact HB.out)))); have n2_ := Aside0.mk (blk_below (g := gb289) (o := .cells #[.slice A0_0 l0_0.length c0_0, .slice A0_1 l0_1.length c0_1, .slice A0_2 l0_2.length c0_2, .slice (some ad309) l0_3.length c0_3, .int .u8 a0_4] 28 (0, 0)) (by (with_reducible repeat (first | refine blk_drewN ?_ _ | refine blk_drew ?_ | refine blk_alloc ?_ _)); exact BK289.out) hb); have n3_ := Aside0.mk (blk_below (g := gb290) (o := .cells #[.string a2_0, .string a2_1, .string a2_2, .string a2_3, .int .i64 a2_4, .int .i64 a2_5, .int .i64 a2_6, .slice A2_7 l2_7.length c2_7] 32 (0, 0)) (by (with_reducible repeat (first | refine blk_drewN ?_ _ | refine blk_drew ?_ | refine blk_alloc ?_ _)); exact BK290.out) hb); have n4_ := Aside0.mk (below_step (by repeat (first | (with_reducible first | exact HB.out | apply below_alloc | apply pw_below_drewN | apply below_drew1 | refine below_set ?_ GE289.out | refine below_set ?_ GE290.out) | exact HB.out)) hb); clear HO_45; clear BK289; clear BK290; clear HB; have HO_45 := n0_; have HO312 := n1_; have BK289 := n2_; have BK290 := n3_; have HB := n4_; clear n0_ n1_ n2_ n3_ n4_; clear hb ho71; obtain ⟨Ao72, co72, eo72⟩ := Kd.R_slice HO312.out; subst eo72) | ((with_reducible refine gate_callee (f := 43) rfl ?_); refine goesL_ (some 90) rfl rfl Try.func43 (by kernel_rfl) rfl #[.int .i64 ((rd_T59 l0_3 t296).f2), .slice Ao72 y310.length co72] rfl (by (try simp only [List.map_toArray, List.map_cons, List.map_nil]); first | done | rfl | (simp only [List.length_drop, List.length_take]; rfl)) ?_; (with_reducible refine (quota_above.calls k2 ((rd_T59 l0_3 t296).f2) _ _ y310 false _ ?side1 ?side2 A53.out).mono ?_); (case side1 => repeat (first | exact (Kd.R_reads' HO312.out).2.2 | (with_reducible refine Kd.C_alloc ?_ _) | (with_reducible refine Kd.C_drewN ?_ _) | (with_reducible refine Kd.C_drew ?_))); (case side2 => exact (Kd.R_reads' HO312.out).2.1); rintro e w' ⟨rfl, ⟨nd, rfl⟩⟩; refine ⟨_, rfl, ?_⟩; have hcz73_0 : w70.cell? ⟨gb289, 0, none⟩ = some (.slice A0_0 l0_0.length c0_0) := (blk_cell BK289.out 0).trans rfl; have hcz73_1 : w70.cell? ⟨gb289, 1, none⟩ = some (.slice A0_1 l0_1.length c0_1) := (blk_cell BK289.out 1).trans rfl; have hcz73_2 : w70.cell? ⟨gb289, 2, none⟩ = some (.slice A0_2 l0_2.length c0_2) := (blk_cell BK289.out 2).trans rfl; have hcz73_3 : w70.cell? ⟨gb289, 3, none⟩ = some (.slice (some ad309) l0_3.length c0_3) := (blk_cell BK289.out 3).trans rfl; have hcz73_4 : w70.cell? ⟨gb289, 4, none⟩ = some (.int .u8 a0_4) := (blk_cell BK289.out 4).trans rfl; have hfz73_0 := blk_frozen BK289.out 0; have hfz73_1 := blk_frozen BK289.out 1; have hfz73_2 := blk_frozen BK289.out 2; have hfz73_3 := blk_frozen BK289.out 3; have hfz73_4 := blk_frozen BK289.out 4; have p314 : 0 ≤ (t296 : Int) := of_decide_eq_true (by first | (with_reducible assumption) | assumption); have q314 : t296 < (l0_3.length : Int) := of_decide_eq_true (by first | (with_reducible assumption) | assumption); obtain ⟨ad314, e314, hx314_0, hx314_1, hx314_2, hx314_3⟩ := at_T59 HR0_3.out t296 p314 q314; obtain rfl : ad309 = ad314 := (by injection e314); replace hx314_0 := (HB.out.cell (World.block_lt_of_cell? w _ hx314_0)).trans hx314_0; replace hx314_1 := (HB.out.cell (World.block_lt_of_cell? w _ hx314_1)).trans hx314_1; replace hx314_2 := (HB.out.cell (World.block_lt_of_cell? w _ hx314_2)).trans hx314_2; replace hx314_3 := (HB.out.cell (World.block_lt_of_cell? w _ hx314_3)).trans hx314_3; replace p314 := eq_true p314; replace q314 := eq_true q314) | ((with_reducible refine gate_dst (N := 99) rfl ?_); (try (refine gate_guard (by rfl) ?_; dsimp only)); refine Kd.R_lit (Kd.int .i64) _ 3 ?hg (N := 99) ?hd (xs := ([t307, 1] : List Int)) (inner := [.int .i64 t307, .int .i64 1]) (ok := fun _ => True) (okp := fun _ => True) ?hr ?hp (fun _ hk => hk) trivial (Below.refl _ _) (Nat.le_refl _) (by simp) ?_; (case hd => rfl); (case hg => rfl); (case hr => first | (go_simp; done) | (go_simp; rfl)); (case hp => exact (Reps.one (show Kd.M (Kd.int .i64) _ _ _ t307 [.int .i64 t307] from rfl) (Reps.one (show Kd.M (Kd.int .i64) _ _ _ 1 [.int .i64 1] from rfl) (Reps.none _ _)))); intro v316 w74 ho75 hb hg_ hnew_; clear hg_ hnew_; (first | rw [← Ny315.out] at ho75 | (simp only [Int.reduceToNat] at ho75; rw [← Ny315.out] at ho75)); have n0_ := Aside0.mk (Kd.R_below (by (with_reducible repeat (first | apply Kd.R_alloc | apply Kd.R_drewN | apply Kd.R_drew)); exact HO_45.out) hb); have n1_ := Aside0.mk (Kd.R_elder' (by (with_reducible repeat (first | apply Kd.R_alloc | apply Kd.R_drewN | apply Kd.R_drew)); exact HO312.out) (Kd.R_base ho75) hb); have n2_ := Aside0.mk (Kd.R_lower (Kd.R_new' ho75 (Kd.R_lt (by (with_reducible repeat (first | apply Kd.R_alloc | apply Kd.R_drewN | apply Kd.R_drew)); exact HO312.out))) (below_size (by repeat (first | (with_reducible first | exact HB.out | apply below_alloc | apply pw_below_drewN | apply below_drew1 | refine below_set ?_ GE289.out | refine below_set ?_ GE290.out) | exact HB.out)))); have n3_ := Aside0.mk (blk_below (g := gb289) (o := .cells #[.slice A0_0 l0_0.length c0_0, .slice A0_1 l0_1.length c0_1, .slice A0_2 l0_2.length c0_2, .slice (some ad309) l0_3.length c0_3, .int .u8 a0_4] 28 (0, 0)) (by (with_reducible repeat (first | refine blk_drewN ?_ _ | refine blk_drew ?_ | refine blk_alloc ?_ _)); exact BK289.out) hb); have n4_ := Aside0.mk (blk_below (g := gb290) (o := .cells #[.string a2_0, .string a2_1, .string a2_2, .string a2_3, .int .i64 a2_4, .int .i64 a2_5, .int .i64 a2_6, .slice A2_7 l2_7.length c2_7] 32 (0, 0)) (by (with_reducible repeat (first | refine blk_drewN ?_ _ | refine blk_drew ?_ | refine blk_alloc ?_ _)); exact BK290.out) hb); have n5_ := Aside0.mk (below_step (by repeat (first | (with_reducible first | exact HB.out | apply below_alloc | apply pw_below_drewN | apply below_drew1 | refine below_set ?_ GE289.out | refine below_set ?_ GE290.out) | exact HB.out)) hb); clear HO_45; clear HO312; clear BK289; clear BK290; clear HB; have HO_45 := n0_; have HO312 := n1_; have HO317 := n2_; have BK289 := n3_; have BK290 := n4_; have HB := n5_; clear n0_ n1_ n2_ n3_ n4_ n5_; clear hb ho75; obtain ⟨Ao76, co76, eo76⟩ := Kd.R_slice HO317.out; subst eo76) | (go_at_call 43; (with_reducible refine (quota_above.calls k2 ((rd_T59 l0_3 t296).f3) _ _ y315 true _ ?side1 ?side2 A63.out).mono ?_); (case side1 => repeat (first | exact (Kd.R_reads' HO317.out).2.2 | (with_reducible refine Kd.C_alloc ?_ _) | (with_reducible refine Kd.C_drewN ?_ _) | (with_reducible refine Kd.C_drew ?_))); (case side2 => exact (Kd.R_reads' HO317.out).2.1); rintro e w' ⟨rfl, ⟨nd, rfl⟩⟩))
                        go_ret
                        exact ⟨by first | rfl | (simp [errW_none, errW_some] <;> rfl) | (simp [*, errW_none, errW_some] <;> rfl), by repeat (first | (with_reducible first | exact HB.out | apply below_alloc | apply pw_below_drewN | apply below_drew1 | refine below_set ?_ GE289.out | refine below_set ?_ GE290.out) | exact HB.out)⟩
                      · replace c64 := Bool.eq_false_iff.mpr c64
                        subst c64
                        have H1 : (some 0) = some r := by rw [if_neg (show ¬ (false = true) by decide)] at H; exact H
                        clear H
                        have H := H1
                        clear H1
                        obtain rfl := Option.some.inj H
                        have hnb77 := NB289_290.out
                        have hnc77 := NB290_289.out
                        have hcz78_0 : wr.cell? ⟨gb289, 0, none⟩ = some (.slice A0_0 l0_0.length c0_0) := (blk_cell BK289.out 0).trans rfl
                        have hcz78_1 : wr.cell? ⟨gb289, 1, none⟩ = some (.slice A0_1 l0_1.length c0_1) := (blk_cell BK289.out 1).trans rfl
                        have hcz78_2 : wr.cell? ⟨gb289, 2, none⟩ = some (.slice A0_2 l0_2.length c0_2) := (blk_cell BK289.out 2).trans rfl
                        have hcz78_3 : wr.cell? ⟨gb289, 3, none⟩ = some (.slice A0_3 l0_3.length c0_3) := (blk_cell BK289.out 3).trans rfl
                        have hcz78_4 : wr.cell? ⟨gb289, 4, none⟩ = some (.int .u8 a0_4) := (blk_cell BK289.out 4).trans rfl
                        have hfz78_0 := blk_frozen BK289.out 0
                        have hfz78_1 := blk_frozen BK289.out 1
                        have hfz78_2 := blk_frozen BK289.out 2
                        have hfz78_3 := blk_frozen BK289.out 3
                        have hfz78_4 := blk_frozen BK289.out 4
                        have hcz79_0 : wr.cell? ⟨gb290, 0, none⟩ = some (.string a2_0) := (blk_cell BK290.out 0).trans rfl
                        have hcz79_1 : wr.cell? ⟨gb290, 1, none⟩ = some (.string a2_1) := (blk_cell BK290.out 1).trans rfl
                        have hcz79_2 : wr.cell? ⟨gb290, 2, none⟩ = some (.string a2_2) := (blk_cell BK290.out 2).trans rfl
                        have hcz79_3 : wr.cell? ⟨gb290, 3, none⟩ = some (.string a2_3) := (blk_cell BK290.out 3).trans rfl
                        have hcz79_4 : wr.cell? ⟨gb290, 4, none⟩ = some (.int .i64 a2_4) := (blk_cell BK290.out 4).trans rfl
                        have hcz79_5 : wr.cell? ⟨gb290, 5, none⟩ = some (.int .i64 a2_5) := (blk_cell BK290.out 5).trans rfl
                        have hcz79_6 : wr.cell? ⟨gb290, 6, none⟩ = some (.int .i64 a2_6) := (blk_cell BK290.out 6).trans rfl
                        have hcz79_7 : wr.cell? ⟨gb290, 7, none⟩ = some (.slice A2_7 l2_7.length c2_7) := (blk_cell BK290.out 7).trans rfl
                        have hfz79_0 := blk_frozen BK290.out 0
                        have hfz79_1 := blk_frozen BK290.out 1
                        have hfz79_2 := blk_frozen BK290.out 2
                        have hfz79_3 := blk_frozen BK290.out 3
                        have hfz79_4 := blk_frozen BK290.out 4
                        have hfz79_5 := blk_frozen BK290.out 5
                        have hfz79_6 := blk_frozen BK290.out 6
                        have hfz79_7 := blk_frozen BK290.out 7
                        go_wp2_with (first | ((with_reducible refine gate_callee (f := 13) rfl ?_); refine goesL_ (some 77) rfl rfl Try.func13 (by kernel_rfl) rfl #[.agg #[.slice A0_0 l0_0.length c0_0, .slice A0_1 l0_1.length c0_1, .slice A0_2 l0_2.length c0_2, .slice A0_3 l0_3.length c0_3, .int .u8 a0_4], .slice A1 l1.length c1, .string a2_2] rfl (by (try simp only [List.map_toArray, List.map_cons, List.map_nil]); first | done | rfl | (simp only [List.length_drop, List.length_take]; rfl)) ?_; (with_reducible refine (quota_Qos.calls _ _ l0_0 _ _ l0_1 _ _ l0_2 _ _ l0_3 a0_4 _ _ l1 a2_2 t306 t307 t308 _ ?side1 ?side2 ?side3 ?side4 ?side5 ?side6 ?side7 ?side8 ?side9 ?side10 A50.out).mono ?_); (case side1 => repeat (first | exact (Kd.C_below HR0_0.out HB.out) | (with_reducible refine Kd.C_alloc ?_ _) | (with_reducible refine Kd.C_drewN ?_ _) | (with_reducible refine Kd.C_drew ?_))); (case side2 => exact HC0_0.out); (case side3 => repeat (first | exact (Kd.C_below HR0_1.out HB.out) | (with_reducible refine Kd.C_alloc ?_ _) | (with_reducible refine Kd.C_drewN ?_ _) | (with_reducible refine Kd.C_drew ?_))); (case side4 => exact HC0_1.out); (case side5 => repeat (first | exact (Kd.C_below HR0_2.out HB.out) | (with_reducible refine Kd.C_alloc ?_ _) | (with_reducible refine Kd.C_drewN ?_ _) | (with_reducible refine Kd.C_drew ?_))); (case side6 => exact HC0_2.out); (case side7 => repeat (first | exact (Kd.C_below HR0_3.out HB.out) | (with_reducible refine Kd.C_alloc ?_ _) | (with_reducible refine Kd.C_drewN ?_ _) | (with_reducible refine Kd.C_drew ?_))); (case side8 => exact HC0_3.out); (case side9 => repeat (first | exact (Kd.C_below HR1.out HB.out) | (with_reducible refine Kd.C_alloc ?_ _) | (with_reducible refine Kd.C_drewN ?_ _) | (with_reducible refine Kd.C_drew ?_))); (case side10 => exact HC1.out); rintro e w80 ⟨rfl, hb⟩; refine ⟨_, rfl, ?_⟩; have n0_ := Aside0.mk (Kd.R_below (by (with_reducible repeat (first | apply Kd.R_alloc | apply Kd.R_drewN | apply Kd.R_drew)); exact HO_45.out) hb); have n1_ := Aside0.mk (blk_below (g := gb289) (o := .cells #[.slice A0_0 l0_0.length c0_0, .slice A0_1 l0_1.length c0_1, .slice A0_2 l0_2.length c0_2, .slice A0_3 l0_3.length c0_3, .int .u8 a0_4] 28 (0, 0)) (by (with_reducible repeat (first | refine blk_drewN ?_ _ | refine blk_drew ?_ | refine blk_alloc ?_ _)); exact BK289.out) hb); have n2_ := Aside0.mk (blk_below (g := gb290) (o := .cells #[.string a2_0, .string a2_1, .string a2_2, .string a2_3, .int .i64 a2_4, .int .i64 a2_5, .int .i64 a2_6, .slice A2_7 l2_7.length c2_7] 32 (0, 0)) (by (with_reducible repeat (first | refine blk_drewN ?_ _ | refine blk_drew ?_ | refine blk_alloc ?_ _)); exact BK290.out) hb); have n3_ := Aside0.mk (below_step (by repeat (first | (with_reducible first | exact HB.out | apply below_alloc | apply pw_below_drewN | apply below_drew1 | refine below_set ?_ GE289.out | refine below_set ?_ GE290.out) | exact HB.out)) hb); clear HO_45; clear BK289; clear BK290; clear HB; have HO_45 := n0_; have BK289 := n1_; have BK290 := n2_; have HB := n3_; clear n0_ n1_ n2_ n3_; (try clear hb); (try clear hb2); (try clear hk); (try clear hi); have hcz81_0 : w80.cell? ⟨gb289, 0, none⟩ = some (.slice A0_0 l0_0.length c0_0) := (blk_cell BK289.out 0).trans rfl; have hcz81_1 : w80.cell? ⟨gb289, 1, none⟩ = some (.slice A0_1 l0_1.length c0_1) := (blk_cell BK289.out 1).trans rfl; have hcz81_2 : w80.cell? ⟨gb289, 2, none⟩ = some (.slice A0_2 l0_2.length c0_2) := (blk_cell BK289.out 2).trans rfl; have hcz81_3 : w80.cell? ⟨gb289, 3, none⟩ = some (.slice A0_3 l0_3.length c0_3) := (blk_cell BK289.out 3).trans rfl; have hcz81_4 : w80.cell? ⟨gb289, 4, none⟩ = some (.int .u8 a0_4) := (blk_cell BK289.out 4).trans rfl; have hfz81_0 := blk_frozen BK289.out 0; have hfz81_1 := blk_frozen BK289.out 1; have hfz81_2 := blk_frozen BK289.out 2; have hfz81_3 := blk_frozen BK289.out 3; have hfz81_4 := blk_frozen BK289.out 4; have p309 : 0 ≤ (t296 : Int) := of_decide_eq_true (by first | (with_reducible assumption) | assumption); have q309 : t296 < (l0_3.length : Int) := of_decide_eq_true (by first | (with_reducible assumption) | assumption); obtain ⟨ad309, e309, hx309_0, hx309_1, hx309_2, hx309_3⟩ := at_T59 HR0_3.out t296 p309 q309; cases e309; replace hx309_0 := (HB.out.cell (World.block_lt_of_cell? w _ hx309_0)).trans hx309_0; replace hx309_1 := (HB.out.cell (World.block_lt_of_cell? w _ hx309_1)).trans hx309_1; replace hx309_2 := (HB.out.cell (World.block_lt_of_cell? w _ hx309_2)).trans hx309_2; replace hx309_3 := (HB.out.cell (World.block_lt_of_cell? w _ hx309_3)).trans hx309_3; replace p309 := eq_true p309; replace q309 := eq_true q309) | ((with_reducible refine gate_dst (N := 89) rfl ?_); (try (refine gate_guard (by rfl) ?_; dsimp only)); refine Kd.R_lit (Kd.int .i64) _ 3 ?hg (N := 89) ?hd (xs := ([t306, (wrap64 (a2_4 * a2_5))] : List Int)) (inner := [.int .i64 t306, .int .i64 (wrap64 (a2_4 * a2_5))]) (ok := fun _ => True) (okp := fun _ => True) ?hr ?hp (fun _ hk => hk) trivial (Below.refl _ _) (Nat.le_refl _) (by simp) ?_; (case hd => rfl); (case hg => rfl); (case hr => first | (go_simp; done) | (go_simp; rfl)); (case hp => exact (Reps.one (show Kd.M (Kd.int .i64) _ _ _ t306 [.int .i64 t306] from rfl) (Reps.one (show Kd.M (Kd.int .i64) _ _ _ (wrap64 (a2_4 * a2_5)) [.int .i64 (wrap64 (a2_4 * a2_5))] from rfl) (Reps.none _ _)))); intro v311 w82 ho83 hb hg_ hnew_; clear hg_ hnew_; (first | rw [← Ny310.out] at ho83 | (simp only [Int.reduceToNat] at ho83; rw [← Ny310.out] at ho83)); have n0_ := Aside0.mk (Kd.R_below (by (with_reducible repeat (first | apply Kd.R_alloc | apply Kd.R_drewN | apply Kd.R_drew)); exact HO_45.out) hb); have n1_ := Aside0.mk (Kd.R_lower ho83 (below_size (by repeat (first | (with_reducible first | exact HB.out | apply below_alloc | apply pw_below_drewN | apply below_drew1 | refine below_set ?_ GE289.out | refine below_set ?_ GE290.out) | exact HB.out)))); have n2_ := Aside0.mk (blk_below (g := gb289) (o := .cells #[.slice A0_0 l0_0.length c0_0, .slice A0_1 l0_1.length c0_1, .slice A0_2 l0_2.length c0_2, .slice (some ad309) l0_3.length c0_3, .int .u8 a0_4] 28 (0, 0)) (by (with_reducible repeat (first | refine blk_drewN ?_ _ | refine blk_drew ?_ | refine blk_alloc ?_ _)); exact BK289.out) hb); have n3_ := Aside0.mk (blk_below (g := gb290) (o := .cells #[.string a2_0, .string a2_1, .string a2_2, .string a2_3, .int .i64 a2_4, .int .i64 a2_5, .int .i64 a2_6, .slice A2_7 l2_7.length c2_7] 32 (0, 0)) (by (with_reducible repeat (first | refine blk_drewN ?_ _ | refine blk_drew ?_ | refine blk_alloc ?_ _)); exact BK290.out) hb); have n4_ := Aside0.mk (below_step (by repeat (first | (with_reducible first | exact HB.out | apply below_alloc | apply pw_below_drewN | apply below_drew1 | refine below_set ?_ GE289.out | refine below_set ?_ GE290.out) | exact HB.out)) hb); clear HO_45; clear BK289; clear BK290; clear HB; have HO_45 := n0_; have HO312 := n1_; have BK289 := n2_; have BK290 := n3_; have HB := n4_; clear n0_ n1_ n2_ n3_ n4_; clear hb ho83; obtain ⟨Ao84, co84, eo84⟩ := Kd.R_slice HO312.out; subst eo84) | ((with_reducible refine gate_callee (f := 43) rfl ?_); refine goesL_ (some 90) rfl rfl Try.func43 (by kernel_rfl) rfl #[.int .i64 ((rd_T59 l0_3 t296).f2), .slice Ao84 y310.length co84] rfl (by (try simp only [List.map_toArray, List.map_cons, List.map_nil]); first | done | rfl | (simp only [List.length_drop, List.length_take]; rfl)) ?_; (with_reducible refine (quota_above.calls k2 ((rd_T59 l0_3 t296).f2) _ _ y310 false _ ?side1 ?side2 A53.out).mono ?_); (case side1 => repeat (first | exact (Kd.R_reads' HO312.out).2.2 | (with_reducible refine Kd.C_alloc ?_ _) | (with_reducible refine Kd.C_drewN ?_ _) | (with_reducible refine Kd.C_drew ?_))); (case side2 => exact (Kd.R_reads' HO312.out).2.1); rintro e w' ⟨rfl, ⟨nd, rfl⟩⟩; refine ⟨_, rfl, ?_⟩; have hcz85_0 : w82.cell? ⟨gb289, 0, none⟩ = some (.slice A0_0 l0_0.length c0_0) := (blk_cell BK289.out 0).trans rfl; have hcz85_1 : w82.cell? ⟨gb289, 1, none⟩ = some (.slice A0_1 l0_1.length c0_1) := (blk_cell BK289.out 1).trans rfl; have hcz85_2 : w82.cell? ⟨gb289, 2, none⟩ = some (.slice A0_2 l0_2.length c0_2) := (blk_cell BK289.out 2).trans rfl; have hcz85_3 : w82.cell? ⟨gb289, 3, none⟩ = some (.slice (some ad309) l0_3.length c0_3) := (blk_cell BK289.out 3).trans rfl; have hcz85_4 : w82.cell? ⟨gb289, 4, none⟩ = some (.int .u8 a0_4) := (blk_cell BK289.out 4).trans rfl; have hfz85_0 := blk_frozen BK289.out 0; have hfz85_1 := blk_frozen BK289.out 1; have hfz85_2 := blk_frozen BK289.out 2; have hfz85_3 := blk_frozen BK289.out 3; have hfz85_4 := blk_frozen BK289.out 4; have p314 : 0 ≤ (t296 : Int) := of_decide_eq_true (by first | (with_reducible assumption) | assumption); have q314 : t296 < (l0_3.length : Int) := of_decide_eq_true (by first | (with_reducible assumption) | assumption); obtain ⟨ad314, e314, hx314_0, hx314_1, hx314_2, hx314_3⟩ := at_T59 HR0_3.out t296 p314 q314; obtain rfl : ad309 = ad314 := (by injection e314); replace hx314_0 := (HB.out.cell (World.block_lt_of_cell? w _ hx314_0)).trans hx314_0; replace hx314_1 := (HB.out.cell (World.block_lt_of_cell? w _ hx314_1)).trans hx314_1; replace hx314_2 := (HB.out.cell (World.block_lt_of_cell? w _ hx314_2)).trans hx314_2; replace hx314_3 := (HB.out.cell (World.block_lt_of_cell? w _ hx314_3)).trans hx314_3; replace p314 := eq_true p314; replace q314 := eq_true q314) | ((with_reducible refine gate_dst (N := 99) rfl ?_); (try (refine gate_guard (by rfl) ?_; dsimp only)); refine Kd.R_lit (Kd.int .i64) _ 3 ?hg (N := 99) ?hd (xs := ([t307, 1] : List Int)) (inner := [.int .i64 t307, .int .i64 1]) (ok := fun _ => True) (okp := fun _ => True) ?hr ?hp (fun _ hk => hk) trivial (Below.refl _ _) (Nat.le_refl _) (by simp) ?_; (case hd => rfl); (case hg => rfl); (case hr => first | (go_simp; done) | (go_simp; rfl)); (case hp => exact (Reps.one (show Kd.M (Kd.int .i64) _ _ _ t307 [.int .i64 t307] from rfl) (Reps.one (show Kd.M (Kd.int .i64) _ _ _ 1 [.int .i64 1] from rfl) (Reps.none _ _)))); intro v316 w86 ho87 hb hg_ hnew_; clear hg_ hnew_; (first | rw [← Ny315.out] at ho87 | (simp only [Int.reduceToNat] at ho87; rw [← Ny315.out] at ho87)); have n0_ := Aside0.mk (Kd.R_below (by (with_reducible repeat (first | apply Kd.R_alloc | apply Kd.R_drewN | apply Kd.R_drew)); exact HO_45.out) hb); have n1_ := Aside0.mk (Kd.R_elder' (by (with_reducible repeat (first | apply Kd.R_alloc | apply Kd.R_drewN | apply Kd.R_drew)); exact HO312.out) (Kd.R_base ho87) hb); have n2_ := Aside0.mk (Kd.R_lower (Kd.R_new' ho87 (Kd.R_lt (by (with_reducible repeat (first | apply Kd.R_alloc | apply Kd.R_drewN | apply Kd.R_drew)); exact HO312.out))) (below_size (by repeat (first | (with_reducible first | exact HB.out | apply below_alloc | apply pw_below_drewN | apply below_drew1 | refine below_set ?_ GE289.out | refine below_set ?_ GE290.out) | exact HB.out)))); have n3_ := Aside0.mk (blk_below (g := gb289) (o := .cells #[.slice A0_0 l0_0.length c0_0, .slice A0_1 l0_1.length c0_1, .slice A0_2 l0_2.length c0_2, .slice (some ad309) l0_3.length c0_3, .int .u8 a0_4] 28 (0, 0)) (by (with_reducible repeat (first | refine blk_drewN ?_ _ | refine blk_drew ?_ | refine blk_alloc ?_ _)); exact BK289.out) hb); have n4_ := Aside0.mk (blk_below (g := gb290) (o := .cells #[.string a2_0, .string a2_1, .string a2_2, .string a2_3, .int .i64 a2_4, .int .i64 a2_5, .int .i64 a2_6, .slice A2_7 l2_7.length c2_7] 32 (0, 0)) (by (with_reducible repeat (first | refine blk_drewN ?_ _ | refine blk_drew ?_ | refine blk_alloc ?_ _)); exact BK290.out) hb); have n5_ := Aside0.mk (below_step (by repeat (first | (with_reducible first | exact HB.out | apply below_alloc | apply pw_below_drewN | apply below_drew1 | refine below_set ?_ GE289.out | refine below_set ?_ GE290.out) | exact HB.out)) hb); clear HO_45; clear HO312; clear BK289; clear BK290; clear HB; have HO_45 := n0_; have HO312 := n1_; have HO317 := n2_; have BK289 := n3_; have BK290 := n4_; have HB := n5_; clear n0_ n1_ n2_ n3_ n4_ n5_; clear hb ho87; obtain ⟨Ao88, co88, eo88⟩ := Kd.R_slice HO317.out; subst eo88) | (go_at_call 43; (with_reducible refine (quota_above.calls k2 ((rd_T59 l0_3 t296).f3) _ _ y315 false _ ?side1 ?side2 A63.out).mono ?_); (case side1 => repeat (first | exact (Kd.R_reads' HO317.out).2.2 | (with_reducible refine Kd.C_alloc ?_ _) | (with_reducible refine Kd.C_drewN ?_ _) | (with_reducible refine Kd.C_drew ?_))); (case side2 => exact (Kd.R_reads' HO317.out).2.1); rintro e w' ⟨rfl, ⟨nd, rfl⟩⟩))
                        go_ret
                        exact ⟨by first | rfl | (simp [errW_none, errW_some] <;> rfl) | (simp [*, errW_none, errW_some] <;> rfl), by repeat (first | (with_reducible first | exact HB.out | apply below_alloc | apply pw_below_drewN | apply below_drew1 | refine below_set ?_ GE289.out | refine below_set ?_ GE290.out) | exact HB.out)⟩
                  · rw [if_neg c52] at H
                    exact absurd H (by simp)
                · rw [if_neg c51] at H
                  exact absurd H (by simp)
  · replace c5 := Bool.eq_false_iff.mpr c5
    subst c5
    have H1 : (some 2) = some r := by rw [if_neg (show ¬ (false = true) by decide)] at H; exact H
    clear H
    have H := H1
    clear H1
    obtain rfl := Option.some.inj H
    go_enter Try.func17, Try.ntmps17
    go_wp2_with (first | ((with_reducible refine gate_dst (N := 3) rfl ?_); (try (refine gate_guard (by rfl) ?_; dsimp only)); refine box_event ?hg (N := 3) ?hd (cs := #[.slice A0_0 l0_0.length c0_0, .slice A0_1 l0_1.length c0_1, .slice A0_2 l0_2.length c0_2, .slice A0_3 l0_3.length c0_3, .int .u8 a0_4]) (t := 28) ?hr ?_; (case hd => rfl); (case hg => rfl); (case hr => first | (go_simp; done) | (go_simp; rfl)); intro gb289 hg w89 hbox hb; have n0_ := Aside0.mk (below_step (by repeat (first | (with_reducible first | exact HB.out | apply below_alloc | apply pw_below_drewN | apply below_drew1) | exact HB.out)) hb); have n1_ := Aside0.mk (hbox); have n2_ := Aside0.mk ((by rw [hg]; exact (below_size (by repeat (first | (with_reducible first | exact HB.out | apply below_alloc | apply pw_below_drewN | apply below_drew1) | exact HB.out))) : w.heap.size ≤ gb289)); have n3_ := Aside0.mk ((by rw [hg]; exact (below_size (by repeat (first | (with_reducible first | exact HB.out | apply below_alloc | apply pw_below_drewN | apply below_drew1) | exact HB.out))) : w.heap.size ≤ gb289)); clear HB; have HB := n0_; have BK289 := n1_; have GW289 := n2_; have GE289 := n3_; clear n0_ n1_ n2_ n3_; clear hb hbox hg) | ((with_reducible refine gate_dst (N := 5) rfl ?_); (try (refine gate_guard (by rfl) ?_; dsimp only)); refine box_event ?hg (N := 5) ?hd (cs := #[.string a2_0, .string a2_1, .string a2_2, .string a2_3, .int .i64 a2_4, .int .i64 a2_5, .int .i64 a2_6, .slice A2_7 l2_7.length c2_7]) (t := 32) ?hr ?_; (case hd => rfl); (case hg => rfl); (case hr => first | (go_simp; done) | (go_simp; rfl)); intro gb290 hg w90 hbox hb; have n0_ := Aside0.mk (blk_below (g := gb289) (o := .cells #[.slice A0_0 l0_0.length c0_0, .slice A0_1 l0_1.length c0_1, .slice A0_2 l0_2.length c0_2, .slice A0_3 l0_3.length c0_3, .int .u8 a0_4] 28 (0, 0)) (by (with_reducible repeat (first | refine blk_drewN ?_ _ | refine blk_drew ?_ | refine blk_alloc ?_ _)); exact BK289.out) hb); have n1_ := Aside0.mk (below_step (by repeat (first | (with_reducible first | exact HB.out | apply below_alloc | apply pw_below_drewN | apply below_drew1 | refine below_set ?_ GE289.out) | exact HB.out)) hb); have n2_ := Aside0.mk (hbox); have n3_ := Aside0.mk ((by rw [hg]; exact (below_size (by repeat (first | (with_reducible first | exact HB.out | apply below_alloc | apply pw_below_drewN | apply below_drew1 | refine below_set ?_ GE289.out) | exact HB.out))) : w.heap.size ≤ gb290)); have n4_ := Aside0.mk ((by rw [hg]; exact (below_size (by repeat (first | (with_reducible first | exact HB.out | apply below_alloc | apply pw_below_drewN | apply below_drew1 | refine below_set ?_ GE289.out) | exact HB.out))) : w.heap.size ≤ gb290)); have n5_ := Aside0.mk ((by rw [hg]; exact Nat.ne_of_lt (blk_lt (g := gb289) (o := .cells #[.slice A0_0 l0_0.length c0_0, .slice A0_1 l0_1.length c0_1, .slice A0_2 l0_2.length c0_2, .slice A0_3 l0_3.length c0_3, .int .u8 a0_4] 28 (0, 0)) (by (with_reducible repeat (first | refine blk_drewN ?_ _ | refine blk_drew ?_ | refine blk_alloc ?_ _)); exact BK289.out)) : gb289 ≠ gb290)); have n6_ := Aside0.mk ((by rw [hg]; exact Nat.ne_of_gt (blk_lt (g := gb289) (o := .cells #[.slice A0_0 l0_0.length c0_0, .slice A0_1 l0_1.length c0_1, .slice A0_2 l0_2.length c0_2, .slice A0_3 l0_3.length c0_3, .int .u8 a0_4] 28 (0, 0)) (by (with_reducible repeat (first | refine blk_drewN ?_ _ | refine blk_drew ?_ | refine blk_alloc ?_ _)); exact BK289.out)) : gb290 ≠ gb289)); clear BK289; clear HB; have BK289 := n0_; have HB := n1_; have BK290 := n2_; have GW290 := n3_; have GE290 := n4_; have NB289_290 := n5_; have NB290_289 := n6_; clear n0_ n1_ n2_ n3_ n4_ n5_ n6_; clear hb hbox hg; have hnb91 := NB289_290.out; have hnc91 := NB290_289.out; have hcz92_0 : w90.cell? ⟨gb289, 0, none⟩ = some (.slice A0_0 l0_0.length c0_0) := (blk_cell BK289.out 0).trans rfl; have hcz92_1 : w90.cell? ⟨gb289, 1, none⟩ = some (.slice A0_1 l0_1.length c0_1) := (blk_cell BK289.out 1).trans rfl; have hcz92_2 : w90.cell? ⟨gb289, 2, none⟩ = some (.slice A0_2 l0_2.length c0_2) := (blk_cell BK289.out 2).trans rfl; have hcz92_3 : w90.cell? ⟨gb289, 3, none⟩ = some (.slice A0_3 l0_3.length c0_3) := (blk_cell BK289.out 3).trans rfl; have hcz92_4 : w90.cell? ⟨gb289, 4, none⟩ = some (.int .u8 a0_4) := (blk_cell BK289.out 4).trans rfl; have hfz92_0 := blk_frozen BK289.out 0; have hfz92_1 := blk_frozen BK289.out 1; have hfz92_2 := blk_frozen BK289.out 2; have hfz92_3 := blk_frozen BK289.out 3; have hfz92_4 := blk_frozen BK289.out 4) | ((with_reducible refine gate_callee (f := 15) rfl ?_); refine goesL_ (some 19) rfl rfl Try.func15 (by kernel_rfl) rfl #[.agg #[.slice A0_0 l0_0.length c0_0, .slice A0_1 l0_1.length c0_1, .slice A0_2 l0_2.length c0_2, .slice A0_3 l0_3.length c0_3, .int .u8 a0_4]] rfl (by (try simp only [List.map_toArray, List.map_cons, List.map_nil]); first | done | rfl | (simp only [List.length_drop, List.length_take]; rfl)) ?_; (with_reducible refine (quota_Right.calls k _ _ l0_0 _ _ l0_1 _ _ l0_2 _ _ l0_3 a0_4 false _ ?side1 ?side2 ?side3 ?side4 ?side5 ?side6 ?side7 ?side8 A4.out).mono ?_); (case side1 => repeat (first | exact (Kd.C_below HR0_0.out HB.out) | (with_reducible refine Kd.C_alloc ?_ _) | (with_reducible refine Kd.C_drewN ?_ _) | (with_reducible refine Kd.C_drew ?_))); (case side2 => exact HC0_0.out); (case side3 => repeat (first | exact (Kd.C_below HR0_1.out HB.out) | (with_reducible refine Kd.C_alloc ?_ _) | (with_reducible refine Kd.C_drewN ?_ _) | (with_reducible refine Kd.C_drew ?_))); (case side4 => exact HC0_1.out); (case side5 => repeat (first | exact (Kd.C_below HR0_2.out HB.out) | (with_reducible refine Kd.C_alloc ?_ _) | (with_reducible refine Kd.C_drewN ?_ _) | (with_reducible refine Kd.C_drew ?_))); (case side6 => exact HC0_2.out); (case side7 => repeat (first | exact (Kd.C_below HR0_3.out HB.out) | (with_reducible refine Kd.C_alloc ?_ _) | (with_reducible refine Kd.C_drewN ?_ _) | (with_reducible refine Kd.C_drew ?_))); (case side8 => exact HC0_3.out); rintro e w93 ⟨rfl, hb⟩; refine ⟨_, rfl, ?_⟩; have n0_ := Aside0.mk (blk_below (g := gb289) (o := .cells #[.slice A0_0 l0_0.length c0_0, .slice A0_1 l0_1.length c0_1, .slice A0_2 l0_2.length c0_2, .slice A0_3 l0_3.length c0_3, .int .u8 a0_4] 28 (0, 0)) (by (with_reducible repeat (first | refine blk_drewN ?_ _ | refine blk_drew ?_ | refine blk_alloc ?_ _)); exact BK289.out) hb); have n1_ := Aside0.mk (blk_below (g := gb290) (o := .cells #[.string a2_0, .string a2_1, .string a2_2, .string a2_3, .int .i64 a2_4, .int .i64 a2_5, .int .i64 a2_6, .slice A2_7 l2_7.length c2_7] 32 (0, 0)) (by (with_reducible repeat (first | refine blk_drewN ?_ _ | refine blk_drew ?_ | refine blk_alloc ?_ _)); exact BK290.out) hb); have n2_ := Aside0.mk (below_step (by repeat (first | (with_reducible first | exact HB.out | apply below_alloc | apply pw_below_drewN | apply below_drew1 | refine below_set ?_ GE289.out | refine below_set ?_ GE290.out) | exact HB.out)) hb); clear BK289; clear BK290; clear HB; have BK289 := n0_; have BK290 := n1_; have HB := n2_; clear n0_ n1_ n2_; (try clear hb); (try clear hb2); (try clear hk); (try clear hi)))
    go_ret
    exact ⟨by first | rfl | (simp [errW_none, errW_some] <;> rfl) | (simp [*, errW_none, errW_some] <;> rfl), by repeat (first | (with_reducible first | exact HB.out | apply below_alloc | apply pw_below_drewN | apply below_drew1 | refine below_set ?_ GE289.out | refine below_set ?_ GE290.out) | exact HB.out)⟩

end Go.Proofs.Ytcnobkcddgcifaa.PT
/- quota.May, in plain Lean. (A part of the print PT.) -/
set_option linter.unusedVariables false
set_option linter.unusedSimpArgs false
namespace Go.Proofs.Ytcnobkcddgcifaa.PT
open Go.RowKit Go.Proofs.YtcnobkcddgcifaaW.PrintWords Go.Proofs.YtcnobkcddgcifaaW.PrintLast Go.Proofs.YtcnobkcddgcifaaW.PrintMore Go.Proofs.Ytcnobkcddgcifaa.Gen Go.Proofs.Ytcnobkcddgcifaa.EvK
/-- Is a sum above a limit? -/
def aboveP (most a b : Int) : Bool := decide (0 ≤ most ∧ most < a + b)
theorem above_ev (m a b : Int) (ha : -4000000000000000000 ≤ a ∧ a ≤ 4000000000000000000) (hb : -4000000000000000000 ≤ b ∧ b ≤ 4000000000000000000) : Ev (fun k => quota_above.f k m [a, b]) (aboveP m a b) := by
  unfold quota_above.f
  have r0 : rd [a, b] 0 = a := rfl
  have r1 : rd [a, b] 1 = b := rfl
  have e0 : wrap64 (0 + a) = a := by unfold wrap64; omega
  have e1 : wrap64 (a + b) = a + b := by unfold wrap64; omega
  have i0 : wrap64 ((0 : Int) + 1) = 1 := by unfold wrap64; omega
  have i1 : wrap64 ((1 : Int) + 1) = 2 := by unfold wrap64; omega
  refine Ev.stp (fun k => by rw [quota_above.l0]) (Ev.pos (by simp) (Ev.pos (by decide) (Ev.pos (by simp) ?_)))
  rw [r0, e0, i0]
  refine Ev.stp (fun k => by rw [quota_above.l0]) (Ev.pos (by simp) (Ev.pos (by decide) (Ev.pos (by simp) ?_)))
  rw [r1, e1, i1]
  refine Ev.stp (fun k => by rw [quota_above.l0]) (Ev.neg (by simp) ?_)
  unfold aboveP
  by_cases h : m ≥ 0
  · exact Ev.pos h (Ev.one (by rw [Bool.eq_iff_iff, decide_eq_true_iff, decide_eq_true_iff]; omega))
  · exact Ev.neg h (Ev.one (by rw [decide_eq_false (by omega)]))
def limAt (ac : List S57) (name : ByteArray) : Int := (rd_T57 ac (findA ac name).1).f2
def overA (ac : List S57) (l : List S53) (more : Int) (name : ByteArray) : Bool := aboveP (limAt ac name) (usedQ ac l name) more
/-- Are a quality's limits exceeded by one more? -/
def overL (q : List S59) (l : List S53) (more : Int) (name : ByteArray) : Bool := aboveP (rd_T59 q (idxOf q (isQ name))).f2 (sumQ (qosP name) l) more || aboveP (rd_T59 q (idxOf q (isQ name))).f3 (numQ (qosP name) l : Nat) 1
def mayQ (q : List S59) (ac : List S57) (l : List S53) (s : S32) : Int :=
  if rightQ q ac = true then (if (pathA ac s.f1).2 = 0 ∧ 0 ≤ idxOf q (isQ s.f2) then (if (pathA ac s.f1).1.any (overA ac l (s.f4 * s.f5)) = true then 150 else (if overL q l (s.f4 * s.f5) s.f2 = true then 150 else 0)) else 141) else 2
theorem path_found {ac : List S57} (hr : rightA ac = true) (s : ByteArray) : ∀ a ∈ (pathA ac s).1, (findA ac a).2 = true := by
  intro a ha
  obtain ⟨T, h1, h2⟩ := (right_iff ac).1 hr
  unfold pathA at ha
  rw [if_pos hr] at ha
  cases hf : (findA ac s).2 with
  | false =>
    rw [hf] at ha
    cases ha
  | true =>
    obtain ⟨p, hp, he, _⟩ := found_at hf
    rw [hf, if_pos rfl, he] at ha
    simp only [Int.toNat_natCast] at ha
    rw [ups_eq hp] at ha
    rcases List.mem_cons.1 ha with h | h
    · exact found_mem.2 ⟨p, hp, h.symm⟩
    · obtain ⟨p', hp', _, h'⟩ := rest_names T (p + 1) p (by omega) hp a h
      exact found_mem.2 ⟨p', hp', h'.symm⟩
theorem path_len {ac : List S57} (hr : rightA ac = true) (s : ByteArray) : (pathA ac s).1.length ≤ 17 := by
  obtain ⟨T, h1, h2⟩ := (right_iff ac).1 hr
  unfold pathA
  rw [if_pos hr]
  cases hf : (findA ac s).2 with
  | false => rw [if_neg (by decide)]; exact Nat.zero_le _
  | true =>
    obtain ⟨p, hp, he, _⟩ := found_at hf
    rw [if_pos rfl, he]
    simp only [Int.toNat_natCast]
    have := ups_len T hp
    omega
theorem sum_bound (p : S32 → Bool) {l : List S53} (T : Tame l) : 0 ≤ sumQ p l ∧ sumQ p l ≤ 4096000000 := by
  have h1 := sum_range p l T.1
  have h2 := T.2
  omega
theorem may_l0 (ci : List Int) (ps : List S87) (ac : List S57) (q : List S59) (pl : Int) (l : List S53) (s : S32) (ht : tameL ac l = true) (more : Int) (hm : 0 ≤ more ∧ more ≤ 4096) (P : List ByteArray) (hP : ∀ a ∈ P, (findA ac a).2 = true) (hPl : P.length ≤ 17) (hrq : rightQ q ac = true) (hat : q.any (isQ s.f2) = true) :
    ∀ d j, P.length - j = d → j ≤ P.length → Ev (fun k => quota_May.l0 k l (idxOf q (isQ s.f2)) more P (P.length : Int) (j : Int) ci ps ac q pl s.f0 s.f1 s.f2 s.f3 s.f4 s.f5 s.f6 s.f7) (if (P.drop j).any (overA ac l more) = true then 150 else (if overL q l more s.f2 = true then 150 else 0))
  | 0, j, hd, hj => by
    have T := (tameL_iff.1 ht).1
    obtain ⟨i, hi, he⟩ := idxOf_some hat
    have hb := sum_bound (qosP s.f2) T
    have hn := num_le (qosP s.f2) l
    have hl := T.2
    have hq : quota_Qos.f ci ps ac q pl l s.f2 = some (sumQ (qosP s.f2) l, ((numQ (qosP s.f2) l : Nat) : Int), 0) := by
      unfold quota_Qos.f qosQ
      rw [if_pos ht, if_pos hrq, if_pos hat]
    rw [show (P.drop j).any (overA ac l more) = false by rw [List.drop_of_length_le (by omega)]; rfl, if_neg (by decide)]
    refine Ev.stp (fun k => by rw [quota_May.l0]) (Ev.neg (by omega) (Ev.bnd (Ev.const hq) ?_))
    refine Ev.pos (by omega) (Ev.pos (by omega) (Ev.bnd (above_ev (rd_T59 q (idxOf q (isQ s.f2))).f2 (sumQ (qosP s.f2) l) more (by omega) (by omega)) ?_))
    unfold overL
    cases h1 : aboveP (rd_T59 q (idxOf q (isQ s.f2))).f2 (sumQ (qosP s.f2) l) more with
    | true => exact Ev.pos rfl (Ev.one (by simp))
    | false =>
      refine Ev.neg (by decide) (Ev.bnd (above_ev (rd_T59 q (idxOf q (isQ s.f2))).f3 ((numQ (qosP s.f2) l : Nat) : Int) 1 (by omega) (by omega)) ?_)
      cases h2 : aboveP (rd_T59 q (idxOf q (isQ s.f2))).f3 (numQ (qosP s.f2) l : Nat) 1 with
      | true => exact Ev.pos rfl (Ev.one (by simp))
      | false => exact Ev.neg (by decide) (Ev.one (by simp))
  | d + 1, j, hd, hj => by
    have hlt : j < P.length := by omega
    have T := (tameL_iff.1 ht).1
    obtain ⟨p, hp, he, _⟩ := found_at (hP P[j] (List.getElem_mem hlt))
    have hb := sum_bound (fun t => hasB (belowA ac P[j]).1 t.f1) T
    have hu : quota_used.f ci ps ac q pl l P[j] = some (usedQ ac l P[j]) := by
      unfold quota_used.f
      rw [if_pos ht]
    have hub : 0 ≤ usedQ ac l P[j] ∧ usedQ ac l P[j] ≤ 4096000000 := hb
    rw [drop_any P _ j hlt]
    refine Ev.stp (fun k => by rw [quota_May.l0]) (Ev.pos (by omega) (Ev.pos (by omega) (Ev.pos (by omega) ?_)))
    rw [rdB P j hlt]
    refine Ev.bnd (a := findA ac P[j]) (Ev.const rfl) ?_
    rw [he]
    refine Ev.pos (by simp only; omega) (Ev.pos (by simp only; omega) (Ev.bnd (Ev.const hu) (Ev.bnd (above_ev (rd_T57 ac (p : Int)).f2 (usedQ ac l P[j]) more (by omega) (by omega)) ?_)))
    have hov : overA ac l more P[j] = aboveP (rd_T57 ac (p : Int)).f2 (usedQ ac l P[j]) more := by unfold overA limAt; rw [he]
    rw [hov]
    cases h1 : aboveP (rd_T57 ac (p : Int)).f2 (usedQ ac l P[j]) more with
    | true => exact Ev.pos rfl (Ev.one (by simp))
    | false =>
      refine Ev.neg (by decide) ?_
      rw [wr1 (by omega), Bool.false_or]
      exact may_l0 ci ps ac q pl l s ht more hm P hP hPl hrq hat d (j + 1) (by omega) (by omega)
theorem may_ev (ci : List Int) (ps : List S87) (ac : List S57) (q : List S59) (pl : Int) (hq : q.length ≤ 9223372036854775807) (l : List S53) (s : S32) (ht : tameL ac l = true) (hs : tameS s = true) : Ev (fun k => quota_May.f k ci ps ac q pl l s.f0 s.f1 s.f2 s.f3 s.f4 s.f5 s.f6 s.f7) (mayQ q ac l s) := by
  unfold quota_May.f mayQ
  refine Ev.bnd (right_ev ci ps ac q pl hq) ?_
  by_cases hr : rightQ q ac = true
  case neg => rw [if_neg hr]; exact Ev.neg hr (Ev.one rfl)
  rw [if_pos hr]
  have hra : rightA ac = true := by
    unfold rightQ at hr
    rw [Bool.and_eq_true] at hr
    exact hr.2
  refine Ev.pos hr (Ev.bnd (path_ev ac s.f1) (Ev.bnd (a := idxOf q (isQ s.f2)) (Ev.const rfl) ?_))
  have hge := idxOf_ge q (isQ s.f2)
  have hts := (tame_iff s).1 hs
  have hmr := mul_range hts.1 hts.2.1 hts.2.2.1 hts.2.2.2
  by_cases hp : (pathA ac s.f1).2 = 0
  case neg =>
    rw [if_neg (fun h => hp h.1)]
    exact Ev.neg hp (Ev.stp (fun k => by rw [quota_May.j0]) (Ev.pos rfl (Ev.one rfl)))
  refine Ev.pos hp (Ev.stp (fun k => by rw [quota_May.j0]) ?_)
  by_cases hi : idxOf q (isQ s.f2) < 0
  · rw [if_neg (by omega)]
    exact Ev.pos (decide_eq_true hi) (Ev.one rfl)
  · rw [if_pos ⟨hp, by omega⟩]
    refine Ev.neg (by rw [decide_eq_false hi]; decide) ?_
    have hw : wrap64 (s.f4 * s.f5) = s.f4 * s.f5 := by
      obtain ⟨m, hm⟩ : ∃ m, m = s.f4 * s.f5 := ⟨_, rfl⟩
      rw [← hm] at hmr ⊢
      unfold wrap64
      omega
    rw [hw]
    exact may_l0 ci ps ac q pl l s ht (s.f4 * s.f5) hmr _ (path_found hra s.f1) (path_len hra s.f1) hr (by rw [← hge]; exact decide_eq_true (by omega)) _ 0 rfl (Nat.zero_le _)
theorem cmay_calls {w : World} {cs : Array Value} {q : List S59} {ac : List S57} (h : Cfg w cs q ac) (has : ac.length < 9000000000000000000) (l : List S53) (A : Option Addr) (c : Nat) (hr : Kd.C k53 w A l.length l) (hc : l.length ≤ c) (T : Tame l) (s : S32) (hs : tameS s = true) (A7 : Option Addr) (c7 : Nat) (h7 : Kd.C k112 w A7 s.f7.length s.f7) (h7c : s.f7.length ≤ c7) :
    Calls Try.prog 17 #[.agg cs, .slice A l.length c, .agg (specC s A7 c7)] w fun e w' => e = .returned (.int .i64 (mayQ q ac l s)) ∧ Below w.heap.size w w' := by
  obtain ⟨A0, c0, l0, A1, c1, l1, A2, c2, A3, c3, pl, rfl, h0, h1, h2, h3, h4, h5, h6, hh⟩ := h.is
  obtain ⟨k, hk⟩ := Ev.the (may_ev l0 l1 ac q pl h6.2.1 l s (tameL_iff.2 ⟨T, has⟩) hs)
  exact quota_May.calls k A0 c0 l0 A1 c1 l1 A2 c2 ac A3 c3 q pl A c l s.f0 s.f1 s.f2 s.f3 s.f4 s.f5 s.f6 A7 c7 s.f7 (mayQ q ac l s) w h0 h1 h2 h3 h4 h5 h6 hh hr hc h7 h7c hk
end Go.Proofs.Ytcnobkcddgcifaa.PT
