/- Texts of this claim, laid together: PTx4, QuotaJ, QuotaK. -/
import Derived.Test.YtcnobkcddgcifaaPkT0
import Derived.Test.YtcnobkcddgcifaaPkT1
import Derived.Test.YtcnobkcddgcifaaPkT2
import Derived.Test.YtcnobkcddgcifaaPkT3
import Derived.Test.YtcnobkcddgcifaaPkT4
import Derived.Test.YtcnobkcddgcifaaPkT5
import Derived.Test.YtcnobkcddgcifaaPkT6
import Derived.Test.YtcnobkcddgcifaaPkT7
-- printed by wprint.py (this session's program over the kit's print.py)
namespace Go.Proofs.Ytcnobkcddgcifaa.PT
open Go.RowKit Go.Proofs.YtcnobkcddgcifaaW.PrintWords Go.Proofs.YtcnobkcddgcifaaW.PrintLast Go.Proofs.YtcnobkcddgcifaaW.PrintMore
attribute [local go_sem] max2_int min2_int max_two min_two max_three min_three max_four min_four   -- for this text's walks alone
set_option linter.unusedVariables false
set_option linter.unusedSimpArgs false

/-! ### musterlaw15_wild: function 6 -/
def musterlaw15_wild.f (a0_0 : ByteArray) (a0_1 : ByteArray) (a0_2 : ByteArray) (a0_3 : ByteArray) (a0_4 : Int) (a0_5 : Int) (a0_6 : Int) (l0_7 : List (S112)) : Option (Bool) := if a0_4 < 1 then (some true) else (if a0_4 > 64 then (some true) else (if a0_5 < 1 then (some true) else (some (decide (a0_5 > 64)))))
set_option maxHeartbeats 8000000 in
set_option maxRecDepth 100000 in
theorem musterlaw15_wild.calls (a0_0 : ByteArray) (a0_1 : ByteArray) (a0_2 : ByteArray) (a0_3 : ByteArray) (a0_4 : Int) (a0_5 : Int) (a0_6 : Int) (A0_7 : Option Addr) (c0_7 : Nat) (l0_7 : List (S112)) (r : Bool) (w : World) (hr0_7 : Kd.C k112 w A0_7 l0_7.length l0_7) (hc0_7 : l0_7.length ≤ c0_7) (h : musterlaw15_wild.f a0_0 a0_1 a0_2 a0_3 a0_4 a0_5 a0_6 l0_7 = some r) :
    Calls Try.prog 6 #[.agg #[.string a0_0, .string a0_1, .string a0_2, .string a0_3, .int .i64 a0_4, .int .i64 a0_5, .int .i64 a0_6, .slice A0_7 l0_7.length c0_7]] w fun e w' => e = .returned (.bool r) ∧ Below w.heap.size w w' := by
  have hu32 := Try.underlying32
  have HR0_7 := Aside0.mk hr0_7
  have HC0_7 := Aside0.mk hc0_7
  clear hr0_7 hc0_7
  have HB := Aside0.mk (Below.refl w.heap.size w)
  have H : (if a0_4 < 1 then (some true) else (if a0_4 > 64 then (some true) else (if a0_5 < 1 then (some true) else (some (decide (a0_5 > 64)))))) = some r := h
  clear h
  by_cases c2 : a0_4 < 1
  · rw [if_pos c2] at H
    have c2b0 : decide (a0_4 < 1) = true := decide_eq_true c2
    clear c2
    obtain rfl := Option.some.inj H
    go_enter Try.func6, Try.ntmps6
    go_wp2_with (first | ((with_reducible refine gate_dst (N := 1) rfl ?_); refine box_event ?hg (N := 1) ?hd (cs := #[.string a0_0, .string a0_1, .string a0_2, .string a0_3, .int .i64 a0_4, .int .i64 a0_5, .int .i64 a0_6, .slice A0_7 l0_7.length c0_7]) (t := 32) ?hr ?_; (case hd => rfl); (case hg => rfl); (case hr => first | (go_simp; done) | (go_simp; rfl)); intro gb101 hg w3 hbox hb; have n0_ := Aside0.mk (below_step (by repeat (first | (with_reducible first | exact HB.out | apply below_alloc | apply pw_below_drewN | apply below_drew1) | exact HB.out)) hb); have n1_ := Aside0.mk (hbox); have n2_ := Aside0.mk ((by rw [hg]; exact (below_size (by repeat (first | (with_reducible first | exact HB.out | apply below_alloc | apply pw_below_drewN | apply below_drew1) | exact HB.out))) : w.heap.size ≤ gb101)); have n3_ := Aside0.mk ((by rw [hg]; exact (below_size (by repeat (first | (with_reducible first | exact HB.out | apply below_alloc | apply pw_below_drewN | apply below_drew1) | exact HB.out))) : w.heap.size ≤ gb101)); clear HB; have HB := n0_; have BK101 := n1_; have GW101 := n2_; have GE101 := n3_; clear n0_ n1_ n2_ n3_; clear hb hbox hg; have hcz4_0 : w3.cell? ⟨gb101, 0, none⟩ = some (.string a0_0) := (blk_cell BK101.out 0).trans rfl; have hcz4_1 : w3.cell? ⟨gb101, 1, none⟩ = some (.string a0_1) := (blk_cell BK101.out 1).trans rfl; have hcz4_2 : w3.cell? ⟨gb101, 2, none⟩ = some (.string a0_2) := (blk_cell BK101.out 2).trans rfl; have hcz4_3 : w3.cell? ⟨gb101, 3, none⟩ = some (.string a0_3) := (blk_cell BK101.out 3).trans rfl; have hcz4_4 : w3.cell? ⟨gb101, 4, none⟩ = some (.int .i64 a0_4) := (blk_cell BK101.out 4).trans rfl; have hcz4_5 : w3.cell? ⟨gb101, 5, none⟩ = some (.int .i64 a0_5) := (blk_cell BK101.out 5).trans rfl; have hcz4_6 : w3.cell? ⟨gb101, 6, none⟩ = some (.int .i64 a0_6) := (blk_cell BK101.out 6).trans rfl; have hcz4_7 : w3.cell? ⟨gb101, 7, none⟩ = some (.slice A0_7 l0_7.length c0_7) := (blk_cell BK101.out 7).trans rfl; have hfz4_0 := blk_frozen BK101.out 0; have hfz4_1 := blk_frozen BK101.out 1; have hfz4_2 := blk_frozen BK101.out 2; have hfz4_3 := blk_frozen BK101.out 3; have hfz4_4 := blk_frozen BK101.out 4; have hfz4_5 := blk_frozen BK101.out 5; have hfz4_6 := blk_frozen BK101.out 6; have hfz4_7 := blk_frozen BK101.out 7))
    go_ret
    exact ⟨by first | rfl | (simp [errW_none, errW_some] <;> rfl) | (simp [*, errW_none, errW_some] <;> rfl), by repeat (first | (with_reducible first | exact HB.out | apply below_alloc | apply pw_below_drewN | apply below_drew1 | refine below_set ?_ GE101.out) | exact HB.out)⟩
  · rw [if_neg c2] at H
    have c2b0 : decide (a0_4 < 1) = false := decide_eq_false c2
    clear c2
    by_cases c5 : a0_4 > 64
    · rw [if_pos c5] at H
      have c5b0 : decide (64 < a0_4) = true := decide_eq_true c5
      clear c5
      obtain rfl := Option.some.inj H
      go_enter Try.func6, Try.ntmps6
      go_wp2_with (first | ((with_reducible refine gate_dst (N := 1) rfl ?_); refine box_event ?hg (N := 1) ?hd (cs := #[.string a0_0, .string a0_1, .string a0_2, .string a0_3, .int .i64 a0_4, .int .i64 a0_5, .int .i64 a0_6, .slice A0_7 l0_7.length c0_7]) (t := 32) ?hr ?_; (case hd => rfl); (case hg => rfl); (case hr => first | (go_simp; done) | (go_simp; rfl)); intro gb101 hg w6 hbox hb; have n0_ := Aside0.mk (below_step (by repeat (first | (with_reducible first | exact HB.out | apply below_alloc | apply pw_below_drewN | apply below_drew1) | exact HB.out)) hb); have n1_ := Aside0.mk (hbox); have n2_ := Aside0.mk ((by rw [hg]; exact (below_size (by repeat (first | (with_reducible first | exact HB.out | apply below_alloc | apply pw_below_drewN | apply below_drew1) | exact HB.out))) : w.heap.size ≤ gb101)); have n3_ := Aside0.mk ((by rw [hg]; exact (below_size (by repeat (first | (with_reducible first | exact HB.out | apply below_alloc | apply pw_below_drewN | apply below_drew1) | exact HB.out))) : w.heap.size ≤ gb101)); clear HB; have HB := n0_; have BK101 := n1_; have GW101 := n2_; have GE101 := n3_; clear n0_ n1_ n2_ n3_; clear hb hbox hg; have hcz7_0 : w6.cell? ⟨gb101, 0, none⟩ = some (.string a0_0) := (blk_cell BK101.out 0).trans rfl; have hcz7_1 : w6.cell? ⟨gb101, 1, none⟩ = some (.string a0_1) := (blk_cell BK101.out 1).trans rfl; have hcz7_2 : w6.cell? ⟨gb101, 2, none⟩ = some (.string a0_2) := (blk_cell BK101.out 2).trans rfl; have hcz7_3 : w6.cell? ⟨gb101, 3, none⟩ = some (.string a0_3) := (blk_cell BK101.out 3).trans rfl; have hcz7_4 : w6.cell? ⟨gb101, 4, none⟩ = some (.int .i64 a0_4) := (blk_cell BK101.out 4).trans rfl; have hcz7_5 : w6.cell? ⟨gb101, 5, none⟩ = some (.int .i64 a0_5) := (blk_cell BK101.out 5).trans rfl; have hcz7_6 : w6.cell? ⟨gb101, 6, none⟩ = some (.int .i64 a0_6) := (blk_cell BK101.out 6).trans rfl; have hcz7_7 : w6.cell? ⟨gb101, 7, none⟩ = some (.slice A0_7 l0_7.length c0_7) := (blk_cell BK101.out 7).trans rfl; have hfz7_0 := blk_frozen BK101.out 0; have hfz7_1 := blk_frozen BK101.out 1; have hfz7_2 := blk_frozen BK101.out 2; have hfz7_3 := blk_frozen BK101.out 3; have hfz7_4 := blk_frozen BK101.out 4; have hfz7_5 := blk_frozen BK101.out 5; have hfz7_6 := blk_frozen BK101.out 6; have hfz7_7 := blk_frozen BK101.out 7))
      go_ret
      exact ⟨by first | rfl | (simp [errW_none, errW_some] <;> rfl) | (simp [*, errW_none, errW_some] <;> rfl), by repeat (first | (with_reducible first | exact HB.out | apply below_alloc | apply pw_below_drewN | apply below_drew1 | refine below_set ?_ GE101.out) | exact HB.out)⟩
    · rw [if_neg c5] at H
      have c5b0 : decide (64 < a0_4) = false := decide_eq_false c5
      clear c5
      by_cases c8 : a0_5 < 1
      · rw [if_pos c8] at H
        have c8b0 : decide (a0_5 < 1) = true := decide_eq_true c8
        clear c8
        obtain rfl := Option.some.inj H
        go_enter Try.func6, Try.ntmps6
        go_wp2_with (first | ((with_reducible refine gate_dst (N := 1) rfl ?_); refine box_event ?hg (N := 1) ?hd (cs := #[.string a0_0, .string a0_1, .string a0_2, .string a0_3, .int .i64 a0_4, .int .i64 a0_5, .int .i64 a0_6, .slice A0_7 l0_7.length c0_7]) (t := 32) ?hr ?_; (case hd => rfl); (case hg => rfl); (case hr => first | (go_simp; done) | (go_simp; rfl)); intro gb101 hg w9 hbox hb; have n0_ := Aside0.mk (below_step (by repeat (first | (with_reducible first | exact HB.out | apply below_alloc | apply pw_below_drewN | apply below_drew1) | exact HB.out)) hb); have n1_ := Aside0.mk (hbox); have n2_ := Aside0.mk ((by rw [hg]; exact (below_size (by repeat (first | (with_reducible first | exact HB.out | apply below_alloc | apply pw_below_drewN | apply below_drew1) | exact HB.out))) : w.heap.size ≤ gb101)); have n3_ := Aside0.mk ((by rw [hg]; exact (below_size (by repeat (first | (with_reducible first | exact HB.out | apply below_alloc | apply pw_below_drewN | apply below_drew1) | exact HB.out))) : w.heap.size ≤ gb101)); clear HB; have HB := n0_; have BK101 := n1_; have GW101 := n2_; have GE101 := n3_; clear n0_ n1_ n2_ n3_; clear hb hbox hg; have hcz10_0 : w9.cell? ⟨gb101, 0, none⟩ = some (.string a0_0) := (blk_cell BK101.out 0).trans rfl; have hcz10_1 : w9.cell? ⟨gb101, 1, none⟩ = some (.string a0_1) := (blk_cell BK101.out 1).trans rfl; have hcz10_2 : w9.cell? ⟨gb101, 2, none⟩ = some (.string a0_2) := (blk_cell BK101.out 2).trans rfl; have hcz10_3 : w9.cell? ⟨gb101, 3, none⟩ = some (.string a0_3) := (blk_cell BK101.out 3).trans rfl; have hcz10_4 : w9.cell? ⟨gb101, 4, none⟩ = some (.int .i64 a0_4) := (blk_cell BK101.out 4).trans rfl; have hcz10_5 : w9.cell? ⟨gb101, 5, none⟩ = some (.int .i64 a0_5) := (blk_cell BK101.out 5).trans rfl; have hcz10_6 : w9.cell? ⟨gb101, 6, none⟩ = some (.int .i64 a0_6) := (blk_cell BK101.out 6).trans rfl; have hcz10_7 : w9.cell? ⟨gb101, 7, none⟩ = some (.slice A0_7 l0_7.length c0_7) := (blk_cell BK101.out 7).trans rfl; have hfz10_0 := blk_frozen BK101.out 0; have hfz10_1 := blk_frozen BK101.out 1; have hfz10_2 := blk_frozen BK101.out 2; have hfz10_3 := blk_frozen BK101.out 3; have hfz10_4 := blk_frozen BK101.out 4; have hfz10_5 := blk_frozen BK101.out 5; have hfz10_6 := blk_frozen BK101.out 6; have hfz10_7 := blk_frozen BK101.out 7))
        go_ret
        exact ⟨by first | rfl | (simp [errW_none, errW_some] <;> rfl) | (simp [*, errW_none, errW_some] <;> rfl), by repeat (first | (with_reducible first | exact HB.out | apply below_alloc | apply pw_below_drewN | apply below_drew1 | refine below_set ?_ GE101.out) | exact HB.out)⟩
      · rw [if_neg c8] at H
        have c8b0 : decide (a0_5 < 1) = false := decide_eq_false c8
        clear c8
        obtain rfl := Option.some.inj H
        go_enter Try.func6, Try.ntmps6
        go_wp2_with (first | ((with_reducible refine gate_dst (N := 1) rfl ?_); refine box_event ?hg (N := 1) ?hd (cs := #[.string a0_0, .string a0_1, .string a0_2, .string a0_3, .int .i64 a0_4, .int .i64 a0_5, .int .i64 a0_6, .slice A0_7 l0_7.length c0_7]) (t := 32) ?hr ?_; (case hd => rfl); (case hg => rfl); (case hr => first | (go_simp; done) | (go_simp; rfl)); intro gb101 hg w11 hbox hb; have n0_ := Aside0.mk (below_step (by repeat (first | (with_reducible first | exact HB.out | apply below_alloc | apply pw_below_drewN | apply below_drew1) | exact HB.out)) hb); have n1_ := Aside0.mk (hbox); have n2_ := Aside0.mk ((by rw [hg]; exact (below_size (by repeat (first | (with_reducible first | exact HB.out | apply below_alloc | apply pw_below_drewN | apply below_drew1) | exact HB.out))) : w.heap.size ≤ gb101)); have n3_ := Aside0.mk ((by rw [hg]; exact (below_size (by repeat (first | (with_reducible first | exact HB.out | apply below_alloc | apply pw_below_drewN | apply below_drew1) | exact HB.out))) : w.heap.size ≤ gb101)); clear HB; have HB := n0_; have BK101 := n1_; have GW101 := n2_; have GE101 := n3_; clear n0_ n1_ n2_ n3_; clear hb hbox hg; have hcz12_0 : w11.cell? ⟨gb101, 0, none⟩ = some (.string a0_0) := (blk_cell BK101.out 0).trans rfl; have hcz12_1 : w11.cell? ⟨gb101, 1, none⟩ = some (.string a0_1) := (blk_cell BK101.out 1).trans rfl; have hcz12_2 : w11.cell? ⟨gb101, 2, none⟩ = some (.string a0_2) := (blk_cell BK101.out 2).trans rfl; have hcz12_3 : w11.cell? ⟨gb101, 3, none⟩ = some (.string a0_3) := (blk_cell BK101.out 3).trans rfl; have hcz12_4 : w11.cell? ⟨gb101, 4, none⟩ = some (.int .i64 a0_4) := (blk_cell BK101.out 4).trans rfl; have hcz12_5 : w11.cell? ⟨gb101, 5, none⟩ = some (.int .i64 a0_5) := (blk_cell BK101.out 5).trans rfl; have hcz12_6 : w11.cell? ⟨gb101, 6, none⟩ = some (.int .i64 a0_6) := (blk_cell BK101.out 6).trans rfl; have hcz12_7 : w11.cell? ⟨gb101, 7, none⟩ = some (.slice A0_7 l0_7.length c0_7) := (blk_cell BK101.out 7).trans rfl; have hfz12_0 := blk_frozen BK101.out 0; have hfz12_1 := blk_frozen BK101.out 1; have hfz12_2 := blk_frozen BK101.out 2; have hfz12_3 := blk_frozen BK101.out 3; have hfz12_4 := blk_frozen BK101.out 4; have hfz12_5 := blk_frozen BK101.out 5; have hfz12_6 := blk_frozen BK101.out 6; have hfz12_7 := blk_frozen BK101.out 7))
        go_ret
        exact ⟨by first | rfl | (simp [errW_none, errW_some] <;> rfl) | (simp [*, errW_none, errW_some] <;> rfl), by repeat (first | (with_reducible first | exact HB.out | apply below_alloc | apply pw_below_drewN | apply below_drew1 | refine below_set ?_ GE101.out) | exact HB.out)⟩

/-! ### musterlaw15_wilds: function 7 -/
def musterlaw15_wilds.l0 : Nat → List (S53) → Int → Option (Bool)
  | 0, _, _ => none
  | k + 1, x0, x3 => if x3 < (x0.length : Int) then (if 0 ≤ x3 then ((musterlaw15_wild.f ((rd_T53 x0 x3).f3.f0) ((rd_T53 x0 x3).f3.f1) ((rd_T53 x0 x3).f3.f2) ((rd_T53 x0 x3).f3.f3) ((rd_T53 x0 x3).f3.f4) ((rd_T53 x0 x3).f3.f5) ((rd_T53 x0 x3).f3.f6) ((rd_T53 x0 x3).f3.f7)).bind fun t103 => (if t103 = true then (some true) else (musterlaw15_wilds.l0 k x0 (wrap64 (x3 + 1))))) else (none)) else (some false)
def musterlaw15_wilds.f (k : Nat) (l0 : List (S53)) : Option (Bool) := musterlaw15_wilds.l0 k l0 0
theorem musterlaw15_wilds.mono_l : ∀ k, (∀ y0 y1, LeO (musterlaw15_wilds.l0 k y0 y1) (musterlaw15_wilds.l0 (k + 1) y0 y1))
  | 0 => fun _ _ r h => by simp [musterlaw15_wilds.l0] at h
  | k + 1 => by
    have ih0 := musterlaw15_wilds.mono_l k
    · intro y0 y1
      unfold musterlaw15_wilds.l0
      repeat' first
      | (with_reducible exact ih0 _ _)
      | (with_reducible exact LeO.refl _)
      | (with_reducible exact LeO.none _)
      | (with_reducible refine LeO.ite ?_ ?_)
      | (with_reducible refine LeO.bind ?_ (fun _ => ?_))
      | exact ih0 _ _
      | exact LeO.none _
      | refine LeO.ite ?_ ?_
      | refine LeO.bind ?_ (fun _ => ?_)
theorem musterlaw15_wilds.mono : ∀ a0 k, LeO (musterlaw15_wilds.f k a0) (musterlaw15_wilds.f (k + 1) a0) := by
  intro a0 k
  have ih0 := musterlaw15_wilds.mono_l k
  unfold musterlaw15_wilds.f
  repeat' first
      | (with_reducible exact ih0 _ _)
      | (with_reducible exact LeO.refl _)
      | (with_reducible exact LeO.none _)
      | (with_reducible refine LeO.ite ?_ ?_)
      | (with_reducible refine LeO.bind ?_ (fun _ => ?_))
      | exact ih0 _ _
      | exact LeO.none _
      | refine LeO.ite ?_ ?_
      | refine LeO.bind ?_ (fun _ => ?_)
set_option maxHeartbeats 8000000 in
set_option maxRecDepth 100000 in
theorem musterlaw15_wilds.calls (k : Nat) (A0 : Option Addr) (c0 : Nat) (l0 : List (S53)) (r : Bool) (w : World) (hr0 : Kd.C k53 w A0 l0.length l0) (hc0 : l0.length ≤ c0) (h : musterlaw15_wilds.f k l0 = some r) :
    Calls Try.prog 7 #[.slice A0 l0.length c0] w fun e w' => e = .returned (.bool r) ∧ Below w.heap.size w w' := by
  have hu32 := Try.underlying32
  have HR0 := Aside0.mk hr0
  have HC0 := Aside0.mk hc0
  clear hr0 hc0
  have HB := Aside0.mk (Below.refl w.heap.size w)
  have H : (musterlaw15_wilds.l0 k l0 0) = some r := h
  clear h
  have H' := Aside0.mk H
  clear H
  go_enter Try.func7, Try.ntmps7
  go_wp2
  go_loopg [3] k (fun kq v3 w' => ∃ (x3_1 : Int), v3 = .int .i64 x3_1 ∧ Aside0 (musterlaw15_wilds.l0 kq l0 x3_1 = some r) ∧ Aside0 (kq ≤ k) ∧ Aside0 (Below w.heap.size w w'))
  case atStart => exact ⟨(0), (by first | rfl | (simp; done) | (simp [*]; done)), H', ⟨Nat.le_refl _⟩, ⟨by repeat (first | (with_reducible first | exact HB.out | apply below_alloc | apply pw_below_drewN | apply below_drew1) | exact HB.out)⟩⟩
  case round =>
    clear H'
    obtain ⟨x3_1, rfl, HA, HK1, HB⟩ := hrel
    cases gk with
    | zero => exact absurd HA.out (by simp [musterlaw15_wilds.l0])
    | succ k1 =>
      have H := HA.out
      clear HA
      simp only [musterlaw15_wilds.l0] at H
      by_cases c2 : x3_1 < (l0.length : Int)
      · rw [if_pos c2] at H
        have c2b0 : decide (x3_1 < (l0.length : Int)) = true := decide_eq_true c2
        clear c2
        by_cases c3 : 0 ≤ x3_1
        · rw [if_pos c3] at H
          have c3b0 : decide (0 ≤ x3_1) = true := decide_eq_true c3
          clear c3
          replace H := Option.bind_eq_some_iff.mp H
          obtain ⟨t103, A40, H⟩ := H
          replace H : (if t103 = true then (some true) else (musterlaw15_wilds.l0 k1 l0 (wrap64 (x3_1 + 1)))) = some r := H
          have A4 := Aside0.mk A40
          clear A40
          by_cases c5 : t103 = true
          · subst c5
            have H1 : (some true) = some r := by rw [if_pos rfl] at H; exact H
            clear H
            have H := H1
            clear H1
            obtain rfl := Option.some.inj H
            have p102 : 0 ≤ (x3_1 : Int) := of_decide_eq_true (by first | (with_reducible assumption) | assumption)
            have q102 : x3_1 < (l0.length : Int) := of_decide_eq_true (by first | (with_reducible assumption) | assumption)
            obtain ⟨ad102, A102_10, c102_10, e102, hx102_0, hx102_1, hx102_2, hx102_3, hx102_4, hx102_5, hx102_6, hx102_7, hx102_8, hx102_9, hx102_10, hx102_11, hx102_12, hx102_13, hx102_14, hx102_15, hx102_16, hl102_10, hi102_10⟩ := at_T53 HR0.out x3_1 p102 q102
            cases e102
            replace hx102_0 := (HB.out.cell (World.block_lt_of_cell? w _ hx102_0)).trans hx102_0
            replace hx102_1 := (HB.out.cell (World.block_lt_of_cell? w _ hx102_1)).trans hx102_1
            replace hx102_2 := (HB.out.cell (World.block_lt_of_cell? w _ hx102_2)).trans hx102_2
            replace hx102_3 := (HB.out.cell (World.block_lt_of_cell? w _ hx102_3)).trans hx102_3
            replace hx102_4 := (HB.out.cell (World.block_lt_of_cell? w _ hx102_4)).trans hx102_4
            replace hx102_5 := (HB.out.cell (World.block_lt_of_cell? w _ hx102_5)).trans hx102_5
            replace hx102_6 := (HB.out.cell (World.block_lt_of_cell? w _ hx102_6)).trans hx102_6
            replace hx102_7 := (HB.out.cell (World.block_lt_of_cell? w _ hx102_7)).trans hx102_7
            replace hx102_8 := (HB.out.cell (World.block_lt_of_cell? w _ hx102_8)).trans hx102_8
            replace hx102_9 := (HB.out.cell (World.block_lt_of_cell? w _ hx102_9)).trans hx102_9
            replace hx102_10 := (HB.out.cell (World.block_lt_of_cell? w _ hx102_10)).trans hx102_10
            replace hx102_11 := (HB.out.cell (World.block_lt_of_cell? w _ hx102_11)).trans hx102_11
            replace hx102_12 := (HB.out.cell (World.block_lt_of_cell? w _ hx102_12)).trans hx102_12
            replace hx102_13 := (HB.out.cell (World.block_lt_of_cell? w _ hx102_13)).trans hx102_13
            replace hx102_14 := (HB.out.cell (World.block_lt_of_cell? w _ hx102_14)).trans hx102_14
            replace hx102_15 := (HB.out.cell (World.block_lt_of_cell? w _ hx102_15)).trans hx102_15
            replace hx102_16 := (HB.out.cell (World.block_lt_of_cell? w _ hx102_16)).trans hx102_16
            have HR102_10 := Aside0.mk hi102_10
            have HC102_10 := Aside0.mk hl102_10
            clear hi102_10 hl102_10
            replace p102 := eq_true p102
            replace q102 := eq_true q102
            go_wp2_with (first | ((with_reducible refine gate_callee (f := 6) rfl ?_); refine goesL_ (some 15) rfl rfl Try.func6 (by kernel_rfl) rfl #[.agg #[.string ((rd_T53 l0 x3_1).f3.f0), .string ((rd_T53 l0 x3_1).f3.f1), .string ((rd_T53 l0 x3_1).f3.f2), .string ((rd_T53 l0 x3_1).f3.f3), .int .i64 ((rd_T53 l0 x3_1).f3.f4), .int .i64 ((rd_T53 l0 x3_1).f3.f5), .int .i64 ((rd_T53 l0 x3_1).f3.f6), .slice A102_10 ((rd_T53 l0 x3_1).f3.f7).length c102_10]] rfl (by (try simp only [List.map_toArray, List.map_cons, List.map_nil]); first | done | rfl | (simp only [List.length_drop, List.length_take]; rfl)) ?_; (with_reducible refine (musterlaw15_wild.calls ((rd_T53 l0 x3_1).f3.f0) ((rd_T53 l0 x3_1).f3.f1) ((rd_T53 l0 x3_1).f3.f2) ((rd_T53 l0 x3_1).f3.f3) ((rd_T53 l0 x3_1).f3.f4) ((rd_T53 l0 x3_1).f3.f5) ((rd_T53 l0 x3_1).f3.f6) _ _ ((rd_T53 l0 x3_1).f3.f7) true _ ?side1 ?side2 A4.out).mono ?_); (case side1 => repeat (first | exact (Kd.C_below HR102_10.out HB.out) | (with_reducible refine Kd.C_alloc ?_ _) | (with_reducible refine Kd.C_drewN ?_ _) | (with_reducible refine Kd.C_drew ?_))); (case side2 => exact HC102_10.out); rintro e w6 ⟨rfl, hb⟩; refine ⟨_, rfl, ?_⟩; have n0_ := Aside0.mk (below_step (by repeat (first | (with_reducible first | exact HB.out | apply below_alloc | apply pw_below_drewN | apply below_drew1) | exact HB.out)) hb); clear HB; have HB := n0_; clear n0_; (try clear hb); (try clear hb2); (try clear hk); (try clear hi)))
            go_ret
            exact ⟨by first | rfl | (simp [errW_none, errW_some] <;> rfl) | (simp [*, errW_none, errW_some] <;> rfl), by repeat (first | (with_reducible first | exact HB.out | apply below_alloc | apply pw_below_drewN | apply below_drew1) | exact HB.out)⟩
          · replace c5 := Bool.eq_false_iff.mpr c5
            subst c5
            have H1 : (musterlaw15_wilds.l0 k1 l0 (wrap64 (x3_1 + 1))) = some r := by rw [if_neg (show ¬ (false = true) by decide)] at H; exact H
            clear H
            have H := H1
            clear H1
            have H' := Aside0.mk H
            clear H
            have p102 : 0 ≤ (x3_1 : Int) := of_decide_eq_true (by first | (with_reducible assumption) | assumption)
            have q102 : x3_1 < (l0.length : Int) := of_decide_eq_true (by first | (with_reducible assumption) | assumption)
            obtain ⟨ad102, A102_10, c102_10, e102, hx102_0, hx102_1, hx102_2, hx102_3, hx102_4, hx102_5, hx102_6, hx102_7, hx102_8, hx102_9, hx102_10, hx102_11, hx102_12, hx102_13, hx102_14, hx102_15, hx102_16, hl102_10, hi102_10⟩ := at_T53 HR0.out x3_1 p102 q102
            cases e102
            replace hx102_0 := (HB.out.cell (World.block_lt_of_cell? w _ hx102_0)).trans hx102_0
            replace hx102_1 := (HB.out.cell (World.block_lt_of_cell? w _ hx102_1)).trans hx102_1
            replace hx102_2 := (HB.out.cell (World.block_lt_of_cell? w _ hx102_2)).trans hx102_2
            replace hx102_3 := (HB.out.cell (World.block_lt_of_cell? w _ hx102_3)).trans hx102_3
            replace hx102_4 := (HB.out.cell (World.block_lt_of_cell? w _ hx102_4)).trans hx102_4
            replace hx102_5 := (HB.out.cell (World.block_lt_of_cell? w _ hx102_5)).trans hx102_5
            replace hx102_6 := (HB.out.cell (World.block_lt_of_cell? w _ hx102_6)).trans hx102_6
            replace hx102_7 := (HB.out.cell (World.block_lt_of_cell? w _ hx102_7)).trans hx102_7
            replace hx102_8 := (HB.out.cell (World.block_lt_of_cell? w _ hx102_8)).trans hx102_8
            replace hx102_9 := (HB.out.cell (World.block_lt_of_cell? w _ hx102_9)).trans hx102_9
            replace hx102_10 := (HB.out.cell (World.block_lt_of_cell? w _ hx102_10)).trans hx102_10
            replace hx102_11 := (HB.out.cell (World.block_lt_of_cell? w _ hx102_11)).trans hx102_11
            replace hx102_12 := (HB.out.cell (World.block_lt_of_cell? w _ hx102_12)).trans hx102_12
            replace hx102_13 := (HB.out.cell (World.block_lt_of_cell? w _ hx102_13)).trans hx102_13
            replace hx102_14 := (HB.out.cell (World.block_lt_of_cell? w _ hx102_14)).trans hx102_14
            replace hx102_15 := (HB.out.cell (World.block_lt_of_cell? w _ hx102_15)).trans hx102_15
            replace hx102_16 := (HB.out.cell (World.block_lt_of_cell? w _ hx102_16)).trans hx102_16
            have HR102_10 := Aside0.mk hi102_10
            have HC102_10 := Aside0.mk hl102_10
            clear hi102_10 hl102_10
            replace p102 := eq_true p102
            replace q102 := eq_true q102
            go_wp2_with (first | ((with_reducible refine gate_callee (f := 6) rfl ?_); refine goesL_ (some 15) rfl rfl Try.func6 (by kernel_rfl) rfl #[.agg #[.string ((rd_T53 l0 x3_1).f3.f0), .string ((rd_T53 l0 x3_1).f3.f1), .string ((rd_T53 l0 x3_1).f3.f2), .string ((rd_T53 l0 x3_1).f3.f3), .int .i64 ((rd_T53 l0 x3_1).f3.f4), .int .i64 ((rd_T53 l0 x3_1).f3.f5), .int .i64 ((rd_T53 l0 x3_1).f3.f6), .slice A102_10 ((rd_T53 l0 x3_1).f3.f7).length c102_10]] rfl (by (try simp only [List.map_toArray, List.map_cons, List.map_nil]); first | done | rfl | (simp only [List.length_drop, List.length_take]; rfl)) ?_; (with_reducible refine (musterlaw15_wild.calls ((rd_T53 l0 x3_1).f3.f0) ((rd_T53 l0 x3_1).f3.f1) ((rd_T53 l0 x3_1).f3.f2) ((rd_T53 l0 x3_1).f3.f3) ((rd_T53 l0 x3_1).f3.f4) ((rd_T53 l0 x3_1).f3.f5) ((rd_T53 l0 x3_1).f3.f6) _ _ ((rd_T53 l0 x3_1).f3.f7) false _ ?side1 ?side2 A4.out).mono ?_); (case side1 => repeat (first | exact (Kd.C_below HR102_10.out HB.out) | (with_reducible refine Kd.C_alloc ?_ _) | (with_reducible refine Kd.C_drewN ?_ _) | (with_reducible refine Kd.C_drew ?_))); (case side2 => exact HC102_10.out); rintro e w7 ⟨rfl, hb⟩; refine ⟨_, rfl, ?_⟩; have n0_ := Aside0.mk (below_step (by repeat (first | (with_reducible first | exact HB.out | apply below_alloc | apply pw_below_drewN | apply below_drew1) | exact HB.out)) hb); clear HB; have HB := n0_; clear n0_; (try clear hb); (try clear hb2); (try clear hk); (try clear hi)))
            go_roundg k1
            case measure => have := HK1.out; omega
            case rel => exact ⟨(wrap64 (x3_1 + 1)), (by first | rfl | (simp; done) | (simp [*]; done)), H', ⟨by have := HK1.out; omega⟩, ⟨by repeat (first | (with_reducible first | exact HB.out | apply below_alloc | apply pw_below_drewN | apply below_drew1) | exact HB.out)⟩⟩
        · rw [if_neg c3] at H
          exact absurd H (by simp)
      · rw [if_neg c2] at H
        have c2b0 : decide (x3_1 < (l0.length : Int)) = false := decide_eq_false c2
        clear c2
        obtain rfl := Option.some.inj H
        go_wp2
        go_ret
        exact ⟨by first | rfl | (simp [errW_none, errW_some] <;> rfl) | (simp [*, errW_none, errW_some] <;> rfl), by repeat (first | (with_reducible first | exact HB.out | apply below_alloc | apply pw_below_drewN | apply below_drew1) | exact HB.out)⟩

/-! ### musterkit_CopyDeps: function 67 -/
def musterkit_CopyDeps.l0 : Nat → List (S112) → List (S112) → Int → Option ((List (S112)))
  | 0, _, _, _ => none
  | k + 1, x0, x3, x4 => if x4 < (x0.length : Int) then (if 0 ≤ x4 then (if x3.length < 8796093022208 then (musterkit_CopyDeps.l0 k x0 (x3 ++ [(⟨(rd_T112 x0 x4).f0, (rd_T112 x0 x4).f1⟩ : S112)]) (wrap64 (x4 + 1))) else (none)) else (none)) else (some x3)
def musterkit_CopyDeps.f (k : Nat) (l0 : List (S112)) : Option ((List (S112))) := musterkit_CopyDeps.l0 k l0 ([] : List (S112)) 0
theorem musterkit_CopyDeps.mono_l : ∀ k, (∀ y0 y1 y2, LeO (musterkit_CopyDeps.l0 k y0 y1 y2) (musterkit_CopyDeps.l0 (k + 1) y0 y1 y2))
  | 0 => fun _ _ _ r h => by simp [musterkit_CopyDeps.l0] at h
  | k + 1 => by
    have ih0 := musterkit_CopyDeps.mono_l k
    · intro y0 y1 y2
      unfold musterkit_CopyDeps.l0
      repeat' first
      | (with_reducible exact ih0 _ _ _)
      | (with_reducible exact LeO.refl _)
      | (with_reducible exact LeO.none _)
      | (with_reducible refine LeO.ite ?_ ?_)
      | (with_reducible refine LeO.bind ?_ (fun _ => ?_))
      | exact ih0 _ _ _
      | exact LeO.none _
      | refine LeO.ite ?_ ?_
      | refine LeO.bind ?_ (fun _ => ?_)
theorem musterkit_CopyDeps.mono : ∀ a0 k, LeO (musterkit_CopyDeps.f k a0) (musterkit_CopyDeps.f (k + 1) a0) := by
  intro a0 k
  have ih0 := musterkit_CopyDeps.mono_l k
  unfold musterkit_CopyDeps.f
  repeat' first
      | (with_reducible exact ih0 _ _ _)
      | (with_reducible exact LeO.refl _)
      | (with_reducible exact LeO.none _)
      | (with_reducible refine LeO.ite ?_ ?_)
      | (with_reducible refine LeO.bind ?_ (fun _ => ?_))
      | exact ih0 _ _ _
      | exact LeO.none _
      | refine LeO.ite ?_ ?_
      | refine LeO.bind ?_ (fun _ => ?_)
set_option maxHeartbeats 8000000 in
set_option maxRecDepth 100000 in
theorem musterkit_CopyDeps.calls (k : Nat) (A0 : Option Addr) (c0 : Nat) (l0 : List (S112)) (r : List (S112)) (w : World) (hr0 : Kd.C k112 w A0 l0.length l0) (hc0 : l0.length ≤ c0) (h : musterkit_CopyDeps.f k l0 = some r) :
    Calls Try.prog 67 #[.slice A0 l0.length c0] w fun e w' => ∃ v0_ : Value, e = .returned (v0_) ∧ Kd.R k112 112 w' w.heap.size (fun _ => True) v0_ r ∧ Below w.heap.size w w' := by
  have hu112 := Try.underlying112
  have HR0 := Aside0.mk hr0
  have HC0 := Aside0.mk hc0
  clear hr0 hc0
  have HB := Aside0.mk (Below.refl w.heap.size w)
  have H : (musterkit_CopyDeps.l0 k l0 ([] : List (S112)) 0) = some r := h
  clear h
  have H' := Aside0.mk H
  clear H
  go_enter Try.func67, Try.ntmps67
  go_wp2
  go_loopg [3, 4] k (fun kq v3 v4 w' => ∃ (x3_1 : List (S112)) (x4_1 : Int), v4 = .int .i64 x4_1 ∧ Aside0 (musterkit_CopyDeps.l0 kq l0 x3_1 x4_1 = some r) ∧ Aside0 (kq ≤ k) ∧ Aside0 (Kd.R k112 112 w' w.heap.size (fun _ => True) v3 x3_1) ∧ Aside0 (Below w.heap.size w w'))
  case atStart => exact ⟨(([] : List (S112))), (0), (by first | rfl | (simp; done) | (simp [*]; done)), H', ⟨Nat.le_refl _⟩, ⟨by first | exact Kd.R_nil _ _ _ _ _ | exact Kd.N_nil _ _ _ _ _ | exact Kd.V_nil _ _ _ _ _ | exact Kd.Q_nil _ _ _ _ _ | exact Kd.S_nil _ _ _ _ _⟩, ⟨by repeat (first | (with_reducible first | exact HB.out | apply below_alloc | apply pw_below_drewN | apply below_drew1) | exact HB.out)⟩⟩
  case round =>
    clear H'
    obtain ⟨x3_1, x4_1, rfl, HA, HK1, HO_3, HB⟩ := hrel
    cases gk with
    | zero => exact absurd HA.out (by simp [musterkit_CopyDeps.l0])
    | succ k1 =>
      have H := HA.out
      clear HA
      simp only [musterkit_CopyDeps.l0] at H
      by_cases c2 : x4_1 < (l0.length : Int)
      · rw [if_pos c2] at H
        have c2b0 : decide (x4_1 < (l0.length : Int)) = true := decide_eq_true c2
        clear c2
        by_cases c3 : 0 ≤ x4_1
        · rw [if_pos c3] at H
          have c3b0 : decide (0 ≤ x4_1) = true := decide_eq_true c3
          clear c3
          by_cases c4 : x3_1.length < 8796093022208
          · rw [if_pos c4] at H
            have LMc4 := Aside0.mk c4
            clear c4
            obtain ⟨y105, hy105⟩ : ∃ y_ : List (S112), y_ = (x3_1 ++ [(⟨(rd_T112 l0 x4_1).f0, (rd_T112 l0 x4_1).f1⟩ : S112)]) := ⟨_, rfl⟩
            replace H : (musterkit_CopyDeps.l0 k1 l0 y105 (wrap64 (x4_1 + 1))) = some r := by first | (rw [hy105]; with_reducible exact H) | (have H2_ := (Option.bind_some _ _).symm.trans H; rw [hy105]; with_reducible exact H2_) | (have H2_ := (Option.bind_some _ _).symm.trans H; with_reducible exact H2_) | with_reducible exact H | (rw [hy105]; exact H) | exact H
            have Ny105 := Aside0.mk hy105
            clear hy105
            have H' := Aside0.mk H
            clear H
            have p104 : 0 ≤ (x4_1 : Int) := of_decide_eq_true (by first | (with_reducible assumption) | assumption)
            have q104 : x4_1 < (l0.length : Int) := of_decide_eq_true (by first | (with_reducible assumption) | assumption)
            obtain ⟨ad104, e104, hx104_0, hx104_1⟩ := at_T112 HR0.out x4_1 p104 q104
            cases e104
            replace hx104_0 := (HB.out.cell (World.block_lt_of_cell? w _ hx104_0)).trans hx104_0
            replace hx104_1 := (HB.out.cell (World.block_lt_of_cell? w _ hx104_1)).trans hx104_1
            replace p104 := eq_true p104
            replace q104 := eq_true q104
            go_wp2_with (first | ((with_reducible refine gate_builtin (b := .append) (xs := #[.tmp 11, .tmp 16]) rfl ?_); at_builtin; refine Kd.R_append k112 (w0 := w) w.heap.size rfl (.tmp 11) (.tmp 16) 30 112 (.agg #[(.int .u8 0), (.int .i64 0)]) 16 rfl Try.underlying30 info112 rfl (by decide) (by omega) u3 x3_1 (⟨(rd_T112 l0 x4_1).f0, (rd_T112 l0 x4_1).f1⟩ : S112) [.int .u8 ((rd_T112 l0 x4_1).f0), .int .i64 ((rd_T112 l0 x4_1).f1)] (fun _ => True) (fun _ => False) rfl rfl ?aP (fun _ hk => hk.elim) ?aF ?aO ?aB ?aS ?aL ?_; (case aP => exact k112_mkM _ _ _ (⟨(rd_T112 l0 x4_1).f0, (rd_T112 l0 x4_1).f1⟩ : S112)); (case aB => exact (by repeat (first | (with_reducible first | exact HB.out | apply below_alloc | apply pw_below_drewN | apply below_drew1) | exact HB.out))); (case aF => exact (fun _ _ => trivial)); (case aO => exact (by (with_reducible repeat (first | apply Kd.R_alloc | apply Kd.R_drewN | apply Kd.R_drew)); exact HO_3.out)); (case aS => exact (below_size (by repeat (first | (with_reducible first | exact HB.out | apply below_alloc | apply pw_below_drewN | apply below_drew1) | exact HB.out)))); (case aL => have := LMc4.out; omega); intro v106 w5 ho hb hg hat; rw [← Ny105.out] at ho; have n0_ := Aside0.mk (hb); have n1_ := Aside0.mk (ho); clear HB; clear HO_3; have HB := n0_; have HO107 := n1_; clear n0_ n1_; clear ho hb hg hat))
            go_roundg k1
            case measure => have := HK1.out; omega
            case rel => exact ⟨(y105), (wrap64 (x4_1 + 1)), (by first | rfl | (simp; done) | (simp [*]; done)), H', ⟨by have := HK1.out; omega⟩, ⟨by (with_reducible repeat (first | apply Kd.R_alloc | apply Kd.R_drewN | apply Kd.R_drew)); exact HO107.out⟩, ⟨by repeat (first | (with_reducible first | exact HB.out | apply below_alloc | apply pw_below_drewN | apply below_drew1) | exact HB.out)⟩⟩
          · rw [if_neg c4] at H
            exact absurd H (by simp)
        · rw [if_neg c3] at H
          exact absurd H (by simp)
      · rw [if_neg c2] at H
        have c2b0 : decide (x4_1 < (l0.length : Int)) = false := decide_eq_false c2
        clear c2
        obtain rfl := Option.some.inj H
        go_wp2
        go_ret
        exact ⟨_, by first | rfl | (simp [errW_none, errW_some] <;> rfl) | (simp [*, errW_none, errW_some] <;> rfl), by (with_reducible repeat (first | apply Kd.R_alloc | apply Kd.R_drewN | apply Kd.R_drew)); exact HO_3.out, by repeat (first | (with_reducible first | exact HB.out | apply below_alloc | apply pw_below_drewN | apply below_drew1) | exact HB.out)⟩

/-! ### musterkit_CopySpec: function 51 -/
def musterkit_CopySpec.f (k : Nat) (a0_0 : ByteArray) (a0_1 : ByteArray) (a0_2 : ByteArray) (a0_3 : ByteArray) (a0_4 : Int) (a0_5 : Int) (a0_6 : Int) (l0_7 : List (S112)) : Option (ByteArray × ByteArray × ByteArray × ByteArray × Int × Int × Int × (List (S112))) := (musterkit_CopyDeps.f k l0_7).bind fun t110 => (some (a0_0, a0_1, a0_2, a0_3, a0_4, a0_5, a0_6, t110))
theorem musterkit_CopySpec.mono : ∀ a0 a1 a2 a3 a4 a5 a6 a7 k, LeO (musterkit_CopySpec.f k a0 a1 a2 a3 a4 a5 a6 a7) (musterkit_CopySpec.f (k + 1) a0 a1 a2 a3 a4 a5 a6 a7) := by
  intro a0 a1 a2 a3 a4 a5 a6 a7 k
  unfold musterkit_CopySpec.f
  repeat' first
      | (with_reducible exact musterkit_CopyDeps.mono _ _)
      | (with_reducible exact LeO.refl _)
      | (with_reducible exact LeO.none _)
      | (with_reducible refine LeO.ite ?_ ?_)
      | (with_reducible refine LeO.bind ?_ (fun _ => ?_))
      | exact musterkit_CopyDeps.mono _ _
      | exact LeO.none _
      | refine LeO.ite ?_ ?_
      | refine LeO.bind ?_ (fun _ => ?_)
set_option maxHeartbeats 8000000 in
set_option maxRecDepth 100000 in
theorem musterkit_CopySpec.calls (k : Nat) (a0_0 : ByteArray) (a0_1 : ByteArray) (a0_2 : ByteArray) (a0_3 : ByteArray) (a0_4 : Int) (a0_5 : Int) (a0_6 : Int) (A0_7 : Option Addr) (c0_7 : Nat) (l0_7 : List (S112)) (r1 : ByteArray) (r2 : ByteArray) (r3 : ByteArray) (r4 : ByteArray) (r5 : Int) (r6 : Int) (r7 : Int) (r8 : List (S112)) (w : World) (hr0_7 : Kd.C k112 w A0_7 l0_7.length l0_7) (hc0_7 : l0_7.length ≤ c0_7) (h : musterkit_CopySpec.f k a0_0 a0_1 a0_2 a0_3 a0_4 a0_5 a0_6 l0_7 = some (r1, r2, r3, r4, r5, r6, r7, r8)) :
    Calls Try.prog 51 #[.agg #[.string a0_0, .string a0_1, .string a0_2, .string a0_3, .int .i64 a0_4, .int .i64 a0_5, .int .i64 a0_6, .slice A0_7 l0_7.length c0_7]] w fun e w' => ∃ v7_ : Value, e = .returned (.agg #[.string r1, .string r2, .string r3, .string r4, .int .i64 r5, .int .i64 r6, .int .i64 r7, v7_]) ∧ Kd.R k112 112 w' w.heap.size (fun _ => True) v7_ r8 ∧ Below w.heap.size w w' := by
  have hu32 := Try.underlying32
  have HR0_7 := Aside0.mk hr0_7
  have HC0_7 := Aside0.mk hc0_7
  clear hr0_7 hc0_7
  have HB := Aside0.mk (Below.refl w.heap.size w)
  have H : ((musterkit_CopyDeps.f k l0_7).bind fun t110 => (some (a0_0, a0_1, a0_2, a0_3, a0_4, a0_5, a0_6, t110))) = some (r1, r2, r3, r4, r5, r6, r7, r8) := h
  clear h
  replace H := Option.bind_eq_some_iff.mp H
  obtain ⟨t110, A20, H⟩ := H
  replace H : (some (a0_0, a0_1, a0_2, a0_3, a0_4, a0_5, a0_6, t110)) = some (r1, r2, r3, r4, r5, r6, r7, r8) := H
  have A2 := Aside0.mk A20
  clear A20
  simp only [Option.some.injEq, Prod.mk.injEq] at H
  obtain ⟨rfl, rfl, rfl, rfl, rfl, rfl, rfl, rfl⟩ := H
  go_enter Try.func51, Try.ntmps51
  go_wp2_with (first | ((with_reducible refine gate_dst (N := 1) rfl ?_); refine box_event ?hg (N := 1) ?hd (cs := #[.string a0_0, .string a0_1, .string a0_2, .string a0_3, .int .i64 a0_4, .int .i64 a0_5, .int .i64 a0_6, .slice A0_7 l0_7.length c0_7]) (t := 32) ?hr ?_; (case hd => rfl); (case hg => rfl); (case hr => first | (go_simp; done) | (go_simp; rfl)); intro gb108 hg w3 hbox hb; have n0_ := Aside0.mk (below_step (by repeat (first | (with_reducible first | exact HB.out | apply below_alloc | apply pw_below_drewN | apply below_drew1) | exact HB.out)) hb); have n1_ := Aside0.mk (hbox); have n2_ := Aside0.mk ((by rw [hg]; exact (below_size (by repeat (first | (with_reducible first | exact HB.out | apply below_alloc | apply pw_below_drewN | apply below_drew1) | exact HB.out))) : w.heap.size ≤ gb108)); have n3_ := Aside0.mk ((by rw [hg]; exact (below_size (by repeat (first | (with_reducible first | exact HB.out | apply below_alloc | apply pw_below_drewN | apply below_drew1) | exact HB.out))) : w.heap.size ≤ gb108)); clear HB; have HB := n0_; have BK108 := n1_; have GW108 := n2_; have GE108 := n3_; clear n0_ n1_ n2_ n3_; clear hb hbox hg) | ((with_reducible refine gate_dst (N := 2) rfl ?_); refine box_event ?hg (N := 2) ?hd (cs := #[.string (⟨#[]⟩ : ByteArray), .string (⟨#[]⟩ : ByteArray), .string (⟨#[]⟩ : ByteArray), .string (⟨#[]⟩ : ByteArray), .int .i64 0, .int .i64 0, .int .i64 0, .slice none 0 0]) (t := 32) ?hr ?_; (case hd => rfl); (case hg => rfl); (case hr => first | (go_simp; done) | (go_simp; rfl)); intro gb109 hg w4 hbox hb; have n0_ := Aside0.mk (blk_below (g := gb108) (o := .cells #[.string a0_0, .string a0_1, .string a0_2, .string a0_3, .int .i64 a0_4, .int .i64 a0_5, .int .i64 a0_6, .slice A0_7 l0_7.length c0_7] 32 (0, 0)) (by (with_reducible repeat (first | refine blk_drewN ?_ _ | refine blk_drew ?_ | refine blk_alloc ?_ _)); exact BK108.out) hb); have n1_ := Aside0.mk (below_step (by repeat (first | (with_reducible first | exact HB.out | apply below_alloc | apply pw_below_drewN | apply below_drew1 | refine below_set ?_ GE108.out) | exact HB.out)) hb); have n2_ := Aside0.mk (hbox); have n3_ := Aside0.mk ((by rw [hg]; exact (below_size (by repeat (first | (with_reducible first | exact HB.out | apply below_alloc | apply pw_below_drewN | apply below_drew1 | refine below_set ?_ GE108.out) | exact HB.out))) : w.heap.size ≤ gb109)); have n4_ := Aside0.mk ((by rw [hg]; exact (below_size (by repeat (first | (with_reducible first | exact HB.out | apply below_alloc | apply pw_below_drewN | apply below_drew1 | refine below_set ?_ GE108.out) | exact HB.out))) : w.heap.size ≤ gb109)); have n5_ := Aside0.mk ((by rw [hg]; exact Nat.ne_of_lt (blk_lt (g := gb108) (o := .cells #[.string a0_0, .string a0_1, .string a0_2, .string a0_3, .int .i64 a0_4, .int .i64 a0_5, .int .i64 a0_6, .slice A0_7 l0_7.length c0_7] 32 (0, 0)) (by (with_reducible repeat (first | refine blk_drewN ?_ _ | refine blk_drew ?_ | refine blk_alloc ?_ _)); exact BK108.out)) : gb108 ≠ gb109)); have n6_ := Aside0.mk ((by rw [hg]; exact Nat.ne_of_gt (blk_lt (g := gb108) (o := .cells #[.string a0_0, .string a0_1, .string a0_2, .string a0_3, .int .i64 a0_4, .int .i64 a0_5, .int .i64 a0_6, .slice A0_7 l0_7.length c0_7] 32 (0, 0)) (by (with_reducible repeat (first | refine blk_drewN ?_ _ | refine blk_drew ?_ | refine blk_alloc ?_ _)); exact BK108.out)) : gb109 ≠ gb108)); clear BK108; clear HB; have BK108 := n0_; have HB := n1_; have BK109 := n2_; have GW109 := n3_; have GE109 := n4_; have NB108_109 := n5_; have NB109_108 := n6_; clear n0_ n1_ n2_ n3_ n4_ n5_ n6_; clear hb hbox hg; have hnb5 := NB108_109.out; have hnc5 := NB109_108.out; have hcz6_0 : w4.cell? ⟨gb108, 0, none⟩ = some (.string a0_0) := (blk_cell BK108.out 0).trans rfl; have hcz6_1 : w4.cell? ⟨gb108, 1, none⟩ = some (.string a0_1) := (blk_cell BK108.out 1).trans rfl; have hcz6_2 : w4.cell? ⟨gb108, 2, none⟩ = some (.string a0_2) := (blk_cell BK108.out 2).trans rfl; have hcz6_3 : w4.cell? ⟨gb108, 3, none⟩ = some (.string a0_3) := (blk_cell BK108.out 3).trans rfl; have hcz6_4 : w4.cell? ⟨gb108, 4, none⟩ = some (.int .i64 a0_4) := (blk_cell BK108.out 4).trans rfl; have hcz6_5 : w4.cell? ⟨gb108, 5, none⟩ = some (.int .i64 a0_5) := (blk_cell BK108.out 5).trans rfl; have hcz6_6 : w4.cell? ⟨gb108, 6, none⟩ = some (.int .i64 a0_6) := (blk_cell BK108.out 6).trans rfl; have hcz6_7 : w4.cell? ⟨gb108, 7, none⟩ = some (.slice A0_7 l0_7.length c0_7) := (blk_cell BK108.out 7).trans rfl; have hfz6_0 := blk_frozen BK108.out 0; have hfz6_1 := blk_frozen BK108.out 1; have hfz6_2 := blk_frozen BK108.out 2; have hfz6_3 := blk_frozen BK108.out 3; have hfz6_4 := blk_frozen BK108.out 4; have hfz6_5 := blk_frozen BK108.out 5; have hfz6_6 := blk_frozen BK108.out 6; have hfz6_7 := blk_frozen BK108.out 7) | ((with_reducible refine gate_callee (f := 67) rfl ?_); refine goesL_ (some 5) rfl rfl Try.func67 (by kernel_rfl) rfl #[.slice A0_7 l0_7.length c0_7] rfl (by (try simp only [List.map_toArray, List.map_cons, List.map_nil]); first | done | rfl | (simp only [List.length_drop, List.length_take]; rfl)) ?_; (with_reducible refine (musterkit_CopyDeps.calls k _ _ l0_7 t110 _ ?side1 ?side2 A2.out).mono ?_); (case side1 => repeat (first | exact (Kd.C_below HR0_7.out HB.out) | (with_reducible refine Kd.C_alloc ?_ _) | (with_reducible refine Kd.C_drewN ?_ _) | (with_reducible refine Kd.C_drew ?_))); (case side2 => exact HC0_7.out); rintro e w7 ⟨v111, rfl, ho0, hb⟩; refine ⟨_, rfl, ?_⟩; have n0_ := Aside0.mk (Kd.R_lower ho0 (below_size (by repeat (first | (with_reducible first | exact HB.out | apply below_alloc | apply pw_below_drewN | apply below_drew1 | refine below_set ?_ GE108.out | refine below_set ?_ GE109.out) | exact HB.out)))); have n1_ := Aside0.mk (blk_below (g := gb108) (o := .cells #[.string a0_0, .string a0_1, .string a0_2, .string a0_3, .int .i64 a0_4, .int .i64 a0_5, .int .i64 a0_6, .slice A0_7 l0_7.length c0_7] 32 (0, 0)) (by (with_reducible repeat (first | refine blk_drewN ?_ _ | refine blk_drew ?_ | refine blk_alloc ?_ _)); exact BK108.out) hb); have n2_ := Aside0.mk (blk_below (g := gb109) (o := .cells #[.string (⟨#[]⟩ : ByteArray), .string (⟨#[]⟩ : ByteArray), .string (⟨#[]⟩ : ByteArray), .string (⟨#[]⟩ : ByteArray), .int .i64 0, .int .i64 0, .int .i64 0, .slice none 0 0] 32 (0, 0)) (by (with_reducible repeat (first | refine blk_drewN ?_ _ | refine blk_drew ?_ | refine blk_alloc ?_ _)); exact BK109.out) hb); have n3_ := Aside0.mk (below_step (by repeat (first | (with_reducible first | exact HB.out | apply below_alloc | apply pw_below_drewN | apply below_drew1 | refine below_set ?_ GE108.out | refine below_set ?_ GE109.out) | exact HB.out)) hb); clear BK108; clear BK109; clear HB; have HO112 := n0_; have BK108 := n1_; have BK109 := n2_; have HB := n3_; clear n0_ n1_ n2_ n3_; (try clear hb); (try clear hb2); (try clear hk); (try clear hi); (try clear ho0); obtain ⟨Ao8, co8, eo8⟩ := Kd.R_slice HO112.out; subst eo8; have hcz9_0 : w7.cell? ⟨gb108, 0, none⟩ = some (.string a0_0) := (blk_cell BK108.out 0).trans rfl; have hcz9_1 : w7.cell? ⟨gb108, 1, none⟩ = some (.string a0_1) := (blk_cell BK108.out 1).trans rfl; have hcz9_2 : w7.cell? ⟨gb108, 2, none⟩ = some (.string a0_2) := (blk_cell BK108.out 2).trans rfl; have hcz9_3 : w7.cell? ⟨gb108, 3, none⟩ = some (.string a0_3) := (blk_cell BK108.out 3).trans rfl; have hcz9_4 : w7.cell? ⟨gb108, 4, none⟩ = some (.int .i64 a0_4) := (blk_cell BK108.out 4).trans rfl; have hcz9_5 : w7.cell? ⟨gb108, 5, none⟩ = some (.int .i64 a0_5) := (blk_cell BK108.out 5).trans rfl; have hcz9_6 : w7.cell? ⟨gb108, 6, none⟩ = some (.int .i64 a0_6) := (blk_cell BK108.out 6).trans rfl; have hcz9_7 : w7.cell? ⟨gb108, 7, none⟩ = some (.slice A0_7 l0_7.length c0_7) := (blk_cell BK108.out 7).trans rfl; have hfz9_0 := blk_frozen BK108.out 0; have hfz9_1 := blk_frozen BK108.out 1; have hfz9_2 := blk_frozen BK108.out 2; have hfz9_3 := blk_frozen BK108.out 3; have hfz9_4 := blk_frozen BK108.out 4; have hfz9_5 := blk_frozen BK108.out 5; have hfz9_6 := blk_frozen BK108.out 6; have hfz9_7 := blk_frozen BK108.out 7; have hcz10_0 : w7.cell? ⟨gb109, 0, none⟩ = some (.string (⟨#[]⟩ : ByteArray)) := (blk_cell BK109.out 0).trans rfl; have hcz10_1 : w7.cell? ⟨gb109, 1, none⟩ = some (.string (⟨#[]⟩ : ByteArray)) := (blk_cell BK109.out 1).trans rfl; have hcz10_2 : w7.cell? ⟨gb109, 2, none⟩ = some (.string (⟨#[]⟩ : ByteArray)) := (blk_cell BK109.out 2).trans rfl; have hcz10_3 : w7.cell? ⟨gb109, 3, none⟩ = some (.string (⟨#[]⟩ : ByteArray)) := (blk_cell BK109.out 3).trans rfl; have hcz10_4 : w7.cell? ⟨gb109, 4, none⟩ = some (.int .i64 0) := (blk_cell BK109.out 4).trans rfl; have hcz10_5 : w7.cell? ⟨gb109, 5, none⟩ = some (.int .i64 0) := (blk_cell BK109.out 5).trans rfl; have hcz10_6 : w7.cell? ⟨gb109, 6, none⟩ = some (.int .i64 0) := (blk_cell BK109.out 6).trans rfl; have hcz10_7 : w7.cell? ⟨gb109, 7, none⟩ = some (.slice none 0 0) := (blk_cell BK109.out 7).trans rfl; have hfz10_0 := blk_frozen BK109.out 0; have hfz10_1 := blk_frozen BK109.out 1; have hfz10_2 := blk_frozen BK109.out 2; have hfz10_3 := blk_frozen BK109.out 3; have hfz10_4 := blk_frozen BK109.out 4; have hfz10_5 := blk_frozen BK109.out 5; have hfz10_6 := blk_frozen BK109.out 6; have hfz10_7 := blk_frozen BK109.out 7))
  refine bodyPost_ret (results_cell_row rfl _ _ gb109 32 #[.string a0_0, .string a0_1, .string a0_2, .string a0_3, .int .i64 a0_4, .int .i64 a0_5, .int .i64 a0_6, .slice Ao8 t110.length co8] (0, 0) _ rfl (by (with_reducible repeat (first | refine blk_drewN ?_ _ | refine blk_drew ?_ | refine blk_alloc ?_ _)); refine blk_put (cs := #[.string a0_0, .string a0_1, .string a0_2, .string a0_3, .int .i64 a0_4, .int .i64 a0_5, .int .i64 a0_6, .slice none 0 0]) ?_ 7 _ rfl; (with_reducible repeat (first | refine blk_drewN ?_ _ | refine blk_drew ?_ | refine blk_alloc ?_ _)); refine blk_put (cs := #[.string a0_0, .string a0_1, .string a0_2, .string a0_3, .int .i64 a0_4, .int .i64 a0_5, .int .i64 0, .slice none 0 0]) ?_ 6 _ rfl; (with_reducible repeat (first | refine blk_drewN ?_ _ | refine blk_drew ?_ | refine blk_alloc ?_ _)); refine blk_put (cs := #[.string a0_0, .string a0_1, .string a0_2, .string a0_3, .int .i64 a0_4, .int .i64 0, .int .i64 0, .slice none 0 0]) ?_ 5 _ rfl; (with_reducible repeat (first | refine blk_drewN ?_ _ | refine blk_drew ?_ | refine blk_alloc ?_ _)); refine blk_put (cs := #[.string a0_0, .string a0_1, .string a0_2, .string a0_3, .int .i64 0, .int .i64 0, .int .i64 0, .slice none 0 0]) ?_ 4 _ rfl; (with_reducible repeat (first | refine blk_drewN ?_ _ | refine blk_drew ?_ | refine blk_alloc ?_ _)); refine blk_put (cs := #[.string a0_0, .string a0_1, .string a0_2, .string (⟨#[]⟩ : ByteArray), .int .i64 0, .int .i64 0, .int .i64 0, .slice none 0 0]) ?_ 3 _ rfl; (with_reducible repeat (first | refine blk_drewN ?_ _ | refine blk_drew ?_ | refine blk_alloc ?_ _)); refine blk_put (cs := #[.string a0_0, .string a0_1, .string (⟨#[]⟩ : ByteArray), .string (⟨#[]⟩ : ByteArray), .int .i64 0, .int .i64 0, .int .i64 0, .slice none 0 0]) ?_ 2 _ rfl; (with_reducible repeat (first | refine blk_drewN ?_ _ | refine blk_drew ?_ | refine blk_alloc ?_ _)); refine blk_put (cs := #[.string a0_0, .string (⟨#[]⟩ : ByteArray), .string (⟨#[]⟩ : ByteArray), .string (⟨#[]⟩ : ByteArray), .int .i64 0, .int .i64 0, .int .i64 0, .slice none 0 0]) ?_ 1 _ rfl; (with_reducible repeat (first | refine blk_drewN ?_ _ | refine blk_drew ?_ | refine blk_alloc ?_ _)); refine blk_put (cs := #[.string (⟨#[]⟩ : ByteArray), .string (⟨#[]⟩ : ByteArray), .string (⟨#[]⟩ : ByteArray), .string (⟨#[]⟩ : ByteArray), .int .i64 0, .int .i64 0, .int .i64 0, .slice none 0 0]) ?_ 0 _ rfl; (with_reducible repeat (first | refine blk_drewN ?_ _ | refine blk_drew ?_ | refine blk_alloc ?_ _)); refine blk_far ?_ NB109_108.out _; (with_reducible repeat (first | refine blk_drewN ?_ _ | refine blk_drew ?_ | refine blk_alloc ?_ _)); exact BK109.out) Try.underlying32 rfl (by kernel_rfl)) rfl ?_
  exact ⟨_, by first | rfl | (simp [errW_none, errW_some] <;> rfl) | (simp [*, errW_none, errW_some] <;> rfl), by (with_reducible repeat (first | apply Kd.R_alloc | apply Kd.R_drewN | apply Kd.R_drew)); exact Kd.R_mono (Kd.R_far (p := ⟨gb109, 7, none⟩) (Kd.R_far (p := ⟨gb109, 6, none⟩) (Kd.R_far (p := ⟨gb109, 5, none⟩) (Kd.R_far (p := ⟨gb109, 4, none⟩) (Kd.R_far (p := ⟨gb109, 3, none⟩) (Kd.R_far (p := ⟨gb109, 2, none⟩) (Kd.R_far (p := ⟨gb109, 1, none⟩) (Kd.R_far (p := ⟨gb109, 0, none⟩) (Kd.R_far (p := ⟨gb108, 7, none⟩) (Kd.R_types (Kd.R_types HO112.out BK108.out (by decide)) BK109.out (by decide)) (fun _ hk => hk.1.2) (.slice Ao8 t110.length co8)) (fun _ hk => hk.2) (.string a0_0)) (fun _ hk => hk.2) (.string a0_1)) (fun _ hk => hk.2) (.string a0_2)) (fun _ hk => hk.2) (.string a0_3)) (fun _ hk => hk.2) (.int .i64 a0_4)) (fun _ hk => hk.2) (.int .i64 a0_5)) (fun _ hk => hk.2) (.int .i64 a0_6)) (fun _ hk => hk.2) (.slice Ao8 t110.length co8)) (fun _ hk => trivial), by repeat (first | (with_reducible first | exact HB.out | apply below_alloc | apply pw_below_drewN | apply below_drew1 | refine below_set ?_ GE108.out | refine below_set ?_ GE109.out) | exact HB.out)⟩

/-! ### musterkit_CopyJob: function 27 -/
def musterkit_CopyJob.f (k : Nat) (a0_0 : Int) (a0_1 : Int) (a0_2 : Int) (a0_3 : ByteArray) (a0_4 : ByteArray) (a0_5 : ByteArray) (a0_6 : ByteArray) (a0_7 : Int) (a0_8 : Int) (a0_9 : Int) (l0_10 : List (S112)) (a0_11 : Int) (a0_12 : Int) (a0_13 : Int) (a0_14 : Int) (a0_15 : Int) (a0_16 : Int) : Option (Int × Int × Int × ByteArray × ByteArray × ByteArray × ByteArray × Int × Int × Int × (List (S112)) × Int × Int × Int × Int × Int × Int) := (musterkit_CopySpec.f k a0_3 a0_4 a0_5 a0_6 a0_7 a0_8 a0_9 l0_10).bind fun bt115 => (some (a0_0, a0_1, a0_2, bt115.1, bt115.2.1, bt115.2.2.1, bt115.2.2.2.1, bt115.2.2.2.2.1, bt115.2.2.2.2.2.1, bt115.2.2.2.2.2.2.1, bt115.2.2.2.2.2.2.2, a0_11, a0_12, a0_13, a0_14, a0_15, a0_16))
theorem musterkit_CopyJob.mono : ∀ a0 a1 a2 a3 a4 a5 a6 a7 a8 a9 a10 a11 a12 a13 a14 a15 a16 k, LeO (musterkit_CopyJob.f k a0 a1 a2 a3 a4 a5 a6 a7 a8 a9 a10 a11 a12 a13 a14 a15 a16) (musterkit_CopyJob.f (k + 1) a0 a1 a2 a3 a4 a5 a6 a7 a8 a9 a10 a11 a12 a13 a14 a15 a16) := by
  intro a0 a1 a2 a3 a4 a5 a6 a7 a8 a9 a10 a11 a12 a13 a14 a15 a16 k
  unfold musterkit_CopyJob.f
  repeat' first
      | (with_reducible exact musterkit_CopySpec.mono _ _ _ _ _ _ _ _ _)
      | (with_reducible exact LeO.refl _)
      | (with_reducible exact LeO.none _)
      | (with_reducible refine LeO.ite ?_ ?_)
      | (with_reducible refine LeO.bind ?_ (fun _ => ?_))
      | exact musterkit_CopySpec.mono _ _ _ _ _ _ _ _ _
      | exact LeO.none _
      | refine LeO.ite ?_ ?_
      | refine LeO.bind ?_ (fun _ => ?_)
set_option maxHeartbeats 8000000 in
set_option maxRecDepth 100000 in
theorem musterkit_CopyJob.calls (k : Nat) (a0_0 : Int) (a0_1 : Int) (a0_2 : Int) (a0_3 : ByteArray) (a0_4 : ByteArray) (a0_5 : ByteArray) (a0_6 : ByteArray) (a0_7 : Int) (a0_8 : Int) (a0_9 : Int) (A0_10 : Option Addr) (c0_10 : Nat) (l0_10 : List (S112)) (a0_11 : Int) (a0_12 : Int) (a0_13 : Int) (a0_14 : Int) (a0_15 : Int) (a0_16 : Int) (r1 : Int) (r2 : Int) (r3 : Int) (r4 : ByteArray) (r5 : ByteArray) (r6 : ByteArray) (r7 : ByteArray) (r8 : Int) (r9 : Int) (r10 : Int) (r11 : List (S112)) (r12 : Int) (r13 : Int) (r14 : Int) (r15 : Int) (r16 : Int) (r17 : Int) (w : World) (hr0_10 : Kd.C k112 w A0_10 l0_10.length l0_10) (hc0_10 : l0_10.length ≤ c0_10) (h : musterkit_CopyJob.f k a0_0 a0_1 a0_2 a0_3 a0_4 a0_5 a0_6 a0_7 a0_8 a0_9 l0_10 a0_11 a0_12 a0_13 a0_14 a0_15 a0_16 = some (r1, r2, r3, r4, r5, r6, r7, r8, r9, r10, r11, r12, r13, r14, r15, r16, r17)) :
    Calls Try.prog 27 #[.agg #[.int .i64 a0_0, .int .i64 a0_1, .int .i64 a0_2, .string a0_3, .string a0_4, .string a0_5, .string a0_6, .int .i64 a0_7, .int .i64 a0_8, .int .i64 a0_9, .slice A0_10 l0_10.length c0_10, .int .u8 a0_11, .int .i64 a0_12, .int .i64 a0_13, .int .i64 a0_14, .int .u32 a0_15, .int .i64 a0_16]] w fun e w' => ∃ v10_ : Value, e = .returned (.agg #[.int .i64 r1, .int .i64 r2, .int .i64 r3, .string r4, .string r5, .string r6, .string r7, .int .i64 r8, .int .i64 r9, .int .i64 r10, v10_, .int .u8 r12, .int .i64 r13, .int .i64 r14, .int .i64 r15, .int .u32 r16, .int .i64 r17]) ∧ Kd.R k112 112 w' w.heap.size (fun _ => True) v10_ r11 ∧ Below w.heap.size w w' := by
  have hu53 := Try.underlying53
  have hu32 := Try.underlying32
  have HR0_10 := Aside0.mk hr0_10
  have HC0_10 := Aside0.mk hc0_10
  clear hr0_10 hc0_10
  have HB := Aside0.mk (Below.refl w.heap.size w)
  have H : ((musterkit_CopySpec.f k a0_3 a0_4 a0_5 a0_6 a0_7 a0_8 a0_9 l0_10).bind fun bt115 => (some (a0_0, a0_1, a0_2, bt115.1, bt115.2.1, bt115.2.2.1, bt115.2.2.2.1, bt115.2.2.2.2.1, bt115.2.2.2.2.2.1, bt115.2.2.2.2.2.2.1, bt115.2.2.2.2.2.2.2, a0_11, a0_12, a0_13, a0_14, a0_15, a0_16))) = some (r1, r2, r3, r4, r5, r6, r7, r8, r9, r10, r11, r12, r13, r14, r15, r16, r17) := h
  clear h
  replace H := Option.bind_eq_some_iff.mp H
  obtain ⟨⟨t115, t116, t117, t118, t119, t120, t121, t122⟩, A20, H⟩ := H
  replace H : (some (a0_0, a0_1, a0_2, t115, t116, t117, t118, t119, t120, t121, t122, a0_11, a0_12, a0_13, a0_14, a0_15, a0_16)) = some (r1, r2, r3, r4, r5, r6, r7, r8, r9, r10, r11, r12, r13, r14, r15, r16, r17) := H
  have A2 := Aside0.mk A20
  clear A20
  simp only [Option.some.injEq, Prod.mk.injEq] at H
  obtain ⟨rfl, rfl, rfl, rfl, rfl, rfl, rfl, rfl, rfl, rfl, rfl, rfl, rfl, rfl, rfl, rfl, rfl⟩ := H
  go_enter Try.func27, Try.ntmps27
  go_wp2_with (first | ((with_reducible refine gate_dst (N := 1) rfl ?_); refine box_event ?hg (N := 1) ?hd (cs := #[.int .i64 a0_0, .int .i64 a0_1, .int .i64 a0_2, .string a0_3, .string a0_4, .string a0_5, .string a0_6, .int .i64 a0_7, .int .i64 a0_8, .int .i64 a0_9, .slice A0_10 l0_10.length c0_10, .int .u8 a0_11, .int .i64 a0_12, .int .i64 a0_13, .int .i64 a0_14, .int .u32 a0_15, .int .i64 a0_16]) (t := 53) ?hr ?_; (case hd => rfl); (case hg => rfl); (case hr => first | (go_simp; done) | (go_simp; rfl)); intro gb113 hg w3 hbox hb; have n0_ := Aside0.mk (below_step (by repeat (first | (with_reducible first | exact HB.out | apply below_alloc | apply pw_below_drewN | apply below_drew1) | exact HB.out)) hb); have n1_ := Aside0.mk (hbox); have n2_ := Aside0.mk ((by rw [hg]; exact (below_size (by repeat (first | (with_reducible first | exact HB.out | apply below_alloc | apply pw_below_drewN | apply below_drew1) | exact HB.out))) : w.heap.size ≤ gb113)); have n3_ := Aside0.mk ((by rw [hg]; exact (below_size (by repeat (first | (with_reducible first | exact HB.out | apply below_alloc | apply pw_below_drewN | apply below_drew1) | exact HB.out))) : w.heap.size ≤ gb113)); clear HB; have HB := n0_; have BK113 := n1_; have GW113 := n2_; have GE113 := n3_; clear n0_ n1_ n2_ n3_; clear hb hbox hg) | ((with_reducible refine gate_dst (N := 2) rfl ?_); refine box_event ?hg (N := 2) ?hd (cs := #[.int .i64 0, .int .i64 0, .int .i64 0, .string (⟨#[]⟩ : ByteArray), .string (⟨#[]⟩ : ByteArray), .string (⟨#[]⟩ : ByteArray), .string (⟨#[]⟩ : ByteArray), .int .i64 0, .int .i64 0, .int .i64 0, .slice none 0 0, .int .u8 0, .int .i64 0, .int .i64 0, .int .i64 0, .int .u32 0, .int .i64 0]) (t := 53) ?hr ?_; (case hd => rfl); (case hg => rfl); (case hr => first | (go_simp; done) | (go_simp; rfl)); intro gb114 hg w4 hbox hb; have n0_ := Aside0.mk (blk_below (g := gb113) (o := .cells #[.int .i64 a0_0, .int .i64 a0_1, .int .i64 a0_2, .string a0_3, .string a0_4, .string a0_5, .string a0_6, .int .i64 a0_7, .int .i64 a0_8, .int .i64 a0_9, .slice A0_10 l0_10.length c0_10, .int .u8 a0_11, .int .i64 a0_12, .int .i64 a0_13, .int .i64 a0_14, .int .u32 a0_15, .int .i64 a0_16] 53 (0, 0)) (by (with_reducible repeat (first | refine blk_drewN ?_ _ | refine blk_drew ?_ | refine blk_alloc ?_ _)); exact BK113.out) hb); have n1_ := Aside0.mk (below_step (by repeat (first | (with_reducible first | exact HB.out | apply below_alloc | apply pw_below_drewN | apply below_drew1 | refine below_set ?_ GE113.out) | exact HB.out)) hb); have n2_ := Aside0.mk (hbox); have n3_ := Aside0.mk ((by rw [hg]; exact (below_size (by repeat (first | (with_reducible first | exact HB.out | apply below_alloc | apply pw_below_drewN | apply below_drew1 | refine below_set ?_ GE113.out) | exact HB.out))) : w.heap.size ≤ gb114)); have n4_ := Aside0.mk ((by rw [hg]; exact (below_size (by repeat (first | (with_reducible first | exact HB.out | apply below_alloc | apply pw_below_drewN | apply below_drew1 | refine below_set ?_ GE113.out) | exact HB.out))) : w.heap.size ≤ gb114)); have n5_ := Aside0.mk ((by rw [hg]; exact Nat.ne_of_lt (blk_lt (g := gb113) (o := .cells #[.int .i64 a0_0, .int .i64 a0_1, .int .i64 a0_2, .string a0_3, .string a0_4, .string a0_5, .string a0_6, .int .i64 a0_7, .int .i64 a0_8, .int .i64 a0_9, .slice A0_10 l0_10.length c0_10, .int .u8 a0_11, .int .i64 a0_12, .int .i64 a0_13, .int .i64 a0_14, .int .u32 a0_15, .int .i64 a0_16] 53 (0, 0)) (by (with_reducible repeat (first | refine blk_drewN ?_ _ | refine blk_drew ?_ | refine blk_alloc ?_ _)); exact BK113.out)) : gb113 ≠ gb114)); have n6_ := Aside0.mk ((by rw [hg]; exact Nat.ne_of_gt (blk_lt (g := gb113) (o := .cells #[.int .i64 a0_0, .int .i64 a0_1, .int .i64 a0_2, .string a0_3, .string a0_4, .string a0_5, .string a0_6, .int .i64 a0_7, .int .i64 a0_8, .int .i64 a0_9, .slice A0_10 l0_10.length c0_10, .int .u8 a0_11, .int .i64 a0_12, .int .i64 a0_13, .int .i64 a0_14, .int .u32 a0_15, .int .i64 a0_16] 53 (0, 0)) (by (with_reducible repeat (first | refine blk_drewN ?_ _ | refine blk_drew ?_ | refine blk_alloc ?_ _)); exact BK113.out)) : gb114 ≠ gb113)); clear BK113; clear HB; have BK113 := n0_; have HB := n1_; have BK114 := n2_; have GW114 := n3_; have GE114 := n4_; have NB113_114 := n5_; have NB114_113 := n6_; clear n0_ n1_ n2_ n3_ n4_ n5_ n6_; clear hb hbox hg; have hnb5 := NB113_114.out; have hnc5 := NB114_113.out; have hcz6_0 : w4.cell? ⟨gb113, 0, none⟩ = some (.int .i64 a0_0) := (blk_cell BK113.out 0).trans rfl; have hcz6_1 : w4.cell? ⟨gb113, 1, none⟩ = some (.int .i64 a0_1) := (blk_cell BK113.out 1).trans rfl; have hcz6_2 : w4.cell? ⟨gb113, 2, none⟩ = some (.int .i64 a0_2) := (blk_cell BK113.out 2).trans rfl; have hcz6_3 : w4.cell? ⟨gb113, 3, none⟩ = some (.string a0_3) := (blk_cell BK113.out 3).trans rfl; have hcz6_4 : w4.cell? ⟨gb113, 4, none⟩ = some (.string a0_4) := (blk_cell BK113.out 4).trans rfl; have hcz6_5 : w4.cell? ⟨gb113, 5, none⟩ = some (.string a0_5) := (blk_cell BK113.out 5).trans rfl; have hcz6_6 : w4.cell? ⟨gb113, 6, none⟩ = some (.string a0_6) := (blk_cell BK113.out 6).trans rfl; have hcz6_7 : w4.cell? ⟨gb113, 7, none⟩ = some (.int .i64 a0_7) := (blk_cell BK113.out 7).trans rfl; have hcz6_8 : w4.cell? ⟨gb113, 8, none⟩ = some (.int .i64 a0_8) := (blk_cell BK113.out 8).trans rfl; have hcz6_9 : w4.cell? ⟨gb113, 9, none⟩ = some (.int .i64 a0_9) := (blk_cell BK113.out 9).trans rfl; have hcz6_10 : w4.cell? ⟨gb113, 10, none⟩ = some (.slice A0_10 l0_10.length c0_10) := (blk_cell BK113.out 10).trans rfl; have hcz6_11 : w4.cell? ⟨gb113, 11, none⟩ = some (.int .u8 a0_11) := (blk_cell BK113.out 11).trans rfl; have hcz6_12 : w4.cell? ⟨gb113, 12, none⟩ = some (.int .i64 a0_12) := (blk_cell BK113.out 12).trans rfl; have hcz6_13 : w4.cell? ⟨gb113, 13, none⟩ = some (.int .i64 a0_13) := (blk_cell BK113.out 13).trans rfl; have hcz6_14 : w4.cell? ⟨gb113, 14, none⟩ = some (.int .i64 a0_14) := (blk_cell BK113.out 14).trans rfl; have hcz6_15 : w4.cell? ⟨gb113, 15, none⟩ = some (.int .u32 a0_15) := (blk_cell BK113.out 15).trans rfl; have hcz6_16 : w4.cell? ⟨gb113, 16, none⟩ = some (.int .i64 a0_16) := (blk_cell BK113.out 16).trans rfl; have hfz6_0 := blk_frozen BK113.out 0; have hfz6_1 := blk_frozen BK113.out 1; have hfz6_2 := blk_frozen BK113.out 2; have hfz6_3 := blk_frozen BK113.out 3; have hfz6_4 := blk_frozen BK113.out 4; have hfz6_5 := blk_frozen BK113.out 5; have hfz6_6 := blk_frozen BK113.out 6; have hfz6_7 := blk_frozen BK113.out 7; have hfz6_8 := blk_frozen BK113.out 8; have hfz6_9 := blk_frozen BK113.out 9; have hfz6_10 := blk_frozen BK113.out 10; have hfz6_11 := blk_frozen BK113.out 11; have hfz6_12 := blk_frozen BK113.out 12; have hfz6_13 := blk_frozen BK113.out 13; have hfz6_14 := blk_frozen BK113.out 14; have hfz6_15 := blk_frozen BK113.out 15; have hfz6_16 := blk_frozen BK113.out 16) | ((with_reducible refine gate_callee (f := 51) rfl ?_); refine goesL_ (some 5) rfl rfl Try.func51 (by kernel_rfl) rfl #[.agg #[.string a0_3, .string a0_4, .string a0_5, .string a0_6, .int .i64 a0_7, .int .i64 a0_8, .int .i64 a0_9, .slice A0_10 l0_10.length c0_10]] rfl (by (try simp only [List.map_toArray, List.map_cons, List.map_nil]); first | done | rfl | (simp only [List.length_drop, List.length_take]; rfl)) ?_; (with_reducible refine (musterkit_CopySpec.calls k a0_3 a0_4 a0_5 a0_6 a0_7 a0_8 a0_9 _ _ l0_10 t115 t116 t117 t118 t119 t120 t121 t122 _ ?side1 ?side2 A2.out).mono ?_); (case side1 => repeat (first | exact (Kd.C_below HR0_10.out HB.out) | (with_reducible refine Kd.C_alloc ?_ _) | (with_reducible refine Kd.C_drewN ?_ _) | (with_reducible refine Kd.C_drew ?_))); (case side2 => exact HC0_10.out); rintro e w7 ⟨v123, rfl, ho0, hb⟩; refine ⟨_, rfl, ?_⟩; have n0_ := Aside0.mk (Kd.R_lower ho0 (below_size (by repeat (first | (with_reducible first | exact HB.out | apply below_alloc | apply pw_below_drewN | apply below_drew1 | refine below_set ?_ GE113.out | refine below_set ?_ GE114.out) | exact HB.out)))); have n1_ := Aside0.mk (blk_below (g := gb113) (o := .cells #[.int .i64 a0_0, .int .i64 a0_1, .int .i64 a0_2, .string a0_3, .string a0_4, .string a0_5, .string a0_6, .int .i64 a0_7, .int .i64 a0_8, .int .i64 a0_9, .slice A0_10 l0_10.length c0_10, .int .u8 a0_11, .int .i64 a0_12, .int .i64 a0_13, .int .i64 a0_14, .int .u32 a0_15, .int .i64 a0_16] 53 (0, 0)) (by (with_reducible repeat (first | refine blk_drewN ?_ _ | refine blk_drew ?_ | refine blk_alloc ?_ _)); exact BK113.out) hb); have n2_ := Aside0.mk (blk_below (g := gb114) (o := .cells #[.int .i64 0, .int .i64 0, .int .i64 0, .string (⟨#[]⟩ : ByteArray), .string (⟨#[]⟩ : ByteArray), .string (⟨#[]⟩ : ByteArray), .string (⟨#[]⟩ : ByteArray), .int .i64 0, .int .i64 0, .int .i64 0, .slice none 0 0, .int .u8 0, .int .i64 0, .int .i64 0, .int .i64 0, .int .u32 0, .int .i64 0] 53 (0, 0)) (by (with_reducible repeat (first | refine blk_drewN ?_ _ | refine blk_drew ?_ | refine blk_alloc ?_ _)); exact BK114.out) hb); have n3_ := Aside0.mk (below_step (by repeat (first | (with_reducible first | exact HB.out | apply below_alloc | apply pw_below_drewN | apply below_drew1 | refine below_set ?_ GE113.out | refine below_set ?_ GE114.out) | exact HB.out)) hb); clear BK113; clear BK114; clear HB; have HO124 := n0_; have BK113 := n1_; have BK114 := n2_; have HB := n3_; clear n0_ n1_ n2_ n3_; (try clear hb); (try clear hb2); (try clear hk); (try clear hi); (try clear ho0); have hcz8_0 : w7.cell? ⟨gb113, 0, none⟩ = some (.int .i64 a0_0) := (blk_cell BK113.out 0).trans rfl; have hcz8_1 : w7.cell? ⟨gb113, 1, none⟩ = some (.int .i64 a0_1) := (blk_cell BK113.out 1).trans rfl; have hcz8_2 : w7.cell? ⟨gb113, 2, none⟩ = some (.int .i64 a0_2) := (blk_cell BK113.out 2).trans rfl; have hcz8_3 : w7.cell? ⟨gb113, 3, none⟩ = some (.string a0_3) := (blk_cell BK113.out 3).trans rfl; have hcz8_4 : w7.cell? ⟨gb113, 4, none⟩ = some (.string a0_4) := (blk_cell BK113.out 4).trans rfl; have hcz8_5 : w7.cell? ⟨gb113, 5, none⟩ = some (.string a0_5) := (blk_cell BK113.out 5).trans rfl; have hcz8_6 : w7.cell? ⟨gb113, 6, none⟩ = some (.string a0_6) := (blk_cell BK113.out 6).trans rfl; have hcz8_7 : w7.cell? ⟨gb113, 7, none⟩ = some (.int .i64 a0_7) := (blk_cell BK113.out 7).trans rfl; have hcz8_8 : w7.cell? ⟨gb113, 8, none⟩ = some (.int .i64 a0_8) := (blk_cell BK113.out 8).trans rfl; have hcz8_9 : w7.cell? ⟨gb113, 9, none⟩ = some (.int .i64 a0_9) := (blk_cell BK113.out 9).trans rfl; have hcz8_10 : w7.cell? ⟨gb113, 10, none⟩ = some (.slice A0_10 l0_10.length c0_10) := (blk_cell BK113.out 10).trans rfl; have hcz8_11 : w7.cell? ⟨gb113, 11, none⟩ = some (.int .u8 a0_11) := (blk_cell BK113.out 11).trans rfl; have hcz8_12 : w7.cell? ⟨gb113, 12, none⟩ = some (.int .i64 a0_12) := (blk_cell BK113.out 12).trans rfl; have hcz8_13 : w7.cell? ⟨gb113, 13, none⟩ = some (.int .i64 a0_13) := (blk_cell BK113.out 13).trans rfl; have hcz8_14 : w7.cell? ⟨gb113, 14, none⟩ = some (.int .i64 a0_14) := (blk_cell BK113.out 14).trans rfl; have hcz8_15 : w7.cell? ⟨gb113, 15, none⟩ = some (.int .u32 a0_15) := (blk_cell BK113.out 15).trans rfl; have hcz8_16 : w7.cell? ⟨gb113, 16, none⟩ = some (.int .i64 a0_16) := (blk_cell BK113.out 16).trans rfl; have hfz8_0 := blk_frozen BK113.out 0; have hfz8_1 := blk_frozen BK113.out 1; have hfz8_2 := blk_frozen BK113.out 2; have hfz8_3 := blk_frozen BK113.out 3; have hfz8_4 := blk_frozen BK113.out 4; have hfz8_5 := blk_frozen BK113.out 5; have hfz8_6 := blk_frozen BK113.out 6; have hfz8_7 := blk_frozen BK113.out 7; have hfz8_8 := blk_frozen BK113.out 8; have hfz8_9 := blk_frozen BK113.out 9; have hfz8_10 := blk_frozen BK113.out 10; have hfz8_11 := blk_frozen BK113.out 11; have hfz8_12 := blk_frozen BK113.out 12; have hfz8_13 := blk_frozen BK113.out 13; have hfz8_14 := blk_frozen BK113.out 14; have hfz8_15 := blk_frozen BK113.out 15; have hfz8_16 := blk_frozen BK113.out 16; obtain ⟨Ao9, co9, eo9⟩ := Kd.R_slice HO124.out; subst eo9; have hcz10_0 : w7.cell? ⟨gb114, 0, none⟩ = some (.int .i64 0) := (blk_cell BK114.out 0).trans rfl; have hcz10_1 : w7.cell? ⟨gb114, 1, none⟩ = some (.int .i64 0) := (blk_cell BK114.out 1).trans rfl; have hcz10_2 : w7.cell? ⟨gb114, 2, none⟩ = some (.int .i64 0) := (blk_cell BK114.out 2).trans rfl; have hcz10_3 : w7.cell? ⟨gb114, 3, none⟩ = some (.string (⟨#[]⟩ : ByteArray)) := (blk_cell BK114.out 3).trans rfl; have hcz10_4 : w7.cell? ⟨gb114, 4, none⟩ = some (.string (⟨#[]⟩ : ByteArray)) := (blk_cell BK114.out 4).trans rfl; have hcz10_5 : w7.cell? ⟨gb114, 5, none⟩ = some (.string (⟨#[]⟩ : ByteArray)) := (blk_cell BK114.out 5).trans rfl; have hcz10_6 : w7.cell? ⟨gb114, 6, none⟩ = some (.string (⟨#[]⟩ : ByteArray)) := (blk_cell BK114.out 6).trans rfl; have hcz10_7 : w7.cell? ⟨gb114, 7, none⟩ = some (.int .i64 0) := (blk_cell BK114.out 7).trans rfl; have hcz10_8 : w7.cell? ⟨gb114, 8, none⟩ = some (.int .i64 0) := (blk_cell BK114.out 8).trans rfl; have hcz10_9 : w7.cell? ⟨gb114, 9, none⟩ = some (.int .i64 0) := (blk_cell BK114.out 9).trans rfl; have hcz10_10 : w7.cell? ⟨gb114, 10, none⟩ = some (.slice none 0 0) := (blk_cell BK114.out 10).trans rfl; have hcz10_11 : w7.cell? ⟨gb114, 11, none⟩ = some (.int .u8 0) := (blk_cell BK114.out 11).trans rfl; have hcz10_12 : w7.cell? ⟨gb114, 12, none⟩ = some (.int .i64 0) := (blk_cell BK114.out 12).trans rfl; have hcz10_13 : w7.cell? ⟨gb114, 13, none⟩ = some (.int .i64 0) := (blk_cell BK114.out 13).trans rfl; have hcz10_14 : w7.cell? ⟨gb114, 14, none⟩ = some (.int .i64 0) := (blk_cell BK114.out 14).trans rfl; have hcz10_15 : w7.cell? ⟨gb114, 15, none⟩ = some (.int .u32 0) := (blk_cell BK114.out 15).trans rfl; have hcz10_16 : w7.cell? ⟨gb114, 16, none⟩ = some (.int .i64 0) := (blk_cell BK114.out 16).trans rfl; have hfz10_0 := blk_frozen BK114.out 0; have hfz10_1 := blk_frozen BK114.out 1; have hfz10_2 := blk_frozen BK114.out 2; have hfz10_3 := blk_frozen BK114.out 3; have hfz10_4 := blk_frozen BK114.out 4; have hfz10_5 := blk_frozen BK114.out 5; have hfz10_6 := blk_frozen BK114.out 6; have hfz10_7 := blk_frozen BK114.out 7; have hfz10_8 := blk_frozen BK114.out 8; have hfz10_9 := blk_frozen BK114.out 9; have hfz10_10 := blk_frozen BK114.out 10; have hfz10_11 := blk_frozen BK114.out 11; have hfz10_12 := blk_frozen BK114.out 12; have hfz10_13 := blk_frozen BK114.out 13; have hfz10_14 := blk_frozen BK114.out 14; have hfz10_15 := blk_frozen BK114.out 15; have hfz10_16 := blk_frozen BK114.out 16))
  refine bodyPost_ret (results_cell_row rfl _ _ gb114 53 #[.int .i64 a0_0, .int .i64 a0_1, .int .i64 a0_2, .string t115, .string t116, .string t117, .string t118, .int .i64 t119, .int .i64 t120, .int .i64 t121, .slice Ao9 t122.length co9, .int .u8 a0_11, .int .i64 a0_12, .int .i64 a0_13, .int .i64 a0_14, .int .u32 a0_15, .int .i64 a0_16] (0, 0) _ rfl (by (with_reducible repeat (first | refine blk_drewN ?_ _ | refine blk_drew ?_ | refine blk_alloc ?_ _)); refine blk_put (cs := #[.int .i64 a0_0, .int .i64 a0_1, .int .i64 a0_2, .string t115, .string t116, .string t117, .string t118, .int .i64 t119, .int .i64 t120, .int .i64 t121, .slice Ao9 t122.length co9, .int .u8 a0_11, .int .i64 a0_12, .int .i64 a0_13, .int .i64 a0_14, .int .u32 a0_15, .int .i64 0]) ?_ 16 _ rfl; (with_reducible repeat (first | refine blk_drewN ?_ _ | refine blk_drew ?_ | refine blk_alloc ?_ _)); refine blk_put (cs := #[.int .i64 a0_0, .int .i64 a0_1, .int .i64 a0_2, .string t115, .string t116, .string t117, .string t118, .int .i64 t119, .int .i64 t120, .int .i64 t121, .slice Ao9 t122.length co9, .int .u8 a0_11, .int .i64 a0_12, .int .i64 a0_13, .int .i64 a0_14, .int .u32 0, .int .i64 0]) ?_ 15 _ rfl; (with_reducible repeat (first | refine blk_drewN ?_ _ | refine blk_drew ?_ | refine blk_alloc ?_ _)); refine blk_put (cs := #[.int .i64 a0_0, .int .i64 a0_1, .int .i64 a0_2, .string t115, .string t116, .string t117, .string t118, .int .i64 t119, .int .i64 t120, .int .i64 t121, .slice Ao9 t122.length co9, .int .u8 a0_11, .int .i64 a0_12, .int .i64 a0_13, .int .i64 0, .int .u32 0, .int .i64 0]) ?_ 14 _ rfl; (with_reducible repeat (first | refine blk_drewN ?_ _ | refine blk_drew ?_ | refine blk_alloc ?_ _)); refine blk_put (cs := #[.int .i64 a0_0, .int .i64 a0_1, .int .i64 a0_2, .string t115, .string t116, .string t117, .string t118, .int .i64 t119, .int .i64 t120, .int .i64 t121, .slice Ao9 t122.length co9, .int .u8 a0_11, .int .i64 a0_12, .int .i64 0, .int .i64 0, .int .u32 0, .int .i64 0]) ?_ 13 _ rfl; (with_reducible repeat (first | refine blk_drewN ?_ _ | refine blk_drew ?_ | refine blk_alloc ?_ _)); refine blk_put (cs := #[.int .i64 a0_0, .int .i64 a0_1, .int .i64 a0_2, .string t115, .string t116, .string t117, .string t118, .int .i64 t119, .int .i64 t120, .int .i64 t121, .slice Ao9 t122.length co9, .int .u8 a0_11, .int .i64 0, .int .i64 0, .int .i64 0, .int .u32 0, .int .i64 0]) ?_ 12 _ rfl; (with_reducible repeat (first | refine blk_drewN ?_ _ | refine blk_drew ?_ | refine blk_alloc ?_ _)); refine blk_put (cs := #[.int .i64 a0_0, .int .i64 a0_1, .int .i64 a0_2, .string t115, .string t116, .string t117, .string t118, .int .i64 t119, .int .i64 t120, .int .i64 t121, .slice Ao9 t122.length co9, .int .u8 0, .int .i64 0, .int .i64 0, .int .i64 0, .int .u32 0, .int .i64 0]) ?_ 11 _ rfl; (with_reducible repeat (first | refine blk_drewN ?_ _ | refine blk_drew ?_ | refine blk_alloc ?_ _)); refine blk_put (cs := #[.int .i64 a0_0, .int .i64 a0_1, .int .i64 a0_2, .string t115, .string t116, .string t117, .string t118, .int .i64 t119, .int .i64 t120, .int .i64 t121, .slice none 0 0, .int .u8 0, .int .i64 0, .int .i64 0, .int .i64 0, .int .u32 0, .int .i64 0]) ?_ 10 _ rfl; (with_reducible repeat (first | refine blk_drewN ?_ _ | refine blk_drew ?_ | refine blk_alloc ?_ _)); refine blk_put (cs := #[.int .i64 a0_0, .int .i64 a0_1, .int .i64 a0_2, .string t115, .string t116, .string t117, .string t118, .int .i64 t119, .int .i64 t120, .int .i64 0, .slice none 0 0, .int .u8 0, .int .i64 0, .int .i64 0, .int .i64 0, .int .u32 0, .int .i64 0]) ?_ 9 _ rfl; (with_reducible repeat (first | refine blk_drewN ?_ _ | refine blk_drew ?_ | refine blk_alloc ?_ _)); refine blk_put (cs := #[.int .i64 a0_0, .int .i64 a0_1, .int .i64 a0_2, .string t115, .string t116, .string t117, .string t118, .int .i64 t119, .int .i64 0, .int .i64 0, .slice none 0 0, .int .u8 0, .int .i64 0, .int .i64 0, .int .i64 0, .int .u32 0, .int .i64 0]) ?_ 8 _ rfl; (with_reducible repeat (first | refine blk_drewN ?_ _ | refine blk_drew ?_ | refine blk_alloc ?_ _)); refine blk_put (cs := #[.int .i64 a0_0, .int .i64 a0_1, .int .i64 a0_2, .string t115, .string t116, .string t117, .string t118, .int .i64 0, .int .i64 0, .int .i64 0, .slice none 0 0, .int .u8 0, .int .i64 0, .int .i64 0, .int .i64 0, .int .u32 0, .int .i64 0]) ?_ 7 _ rfl; (with_reducible repeat (first | refine blk_drewN ?_ _ | refine blk_drew ?_ | refine blk_alloc ?_ _)); refine blk_put (cs := #[.int .i64 a0_0, .int .i64 a0_1, .int .i64 a0_2, .string t115, .string t116, .string t117, .string (⟨#[]⟩ : ByteArray), .int .i64 0, .int .i64 0, .int .i64 0, .slice none 0 0, .int .u8 0, .int .i64 0, .int .i64 0, .int .i64 0, .int .u32 0, .int .i64 0]) ?_ 6 _ rfl; (with_reducible repeat (first | refine blk_drewN ?_ _ | refine blk_drew ?_ | refine blk_alloc ?_ _)); refine blk_put (cs := #[.int .i64 a0_0, .int .i64 a0_1, .int .i64 a0_2, .string t115, .string t116, .string (⟨#[]⟩ : ByteArray), .string (⟨#[]⟩ : ByteArray), .int .i64 0, .int .i64 0, .int .i64 0, .slice none 0 0, .int .u8 0, .int .i64 0, .int .i64 0, .int .i64 0, .int .u32 0, .int .i64 0]) ?_ 5 _ rfl; (with_reducible repeat (first | refine blk_drewN ?_ _ | refine blk_drew ?_ | refine blk_alloc ?_ _)); refine blk_put (cs := #[.int .i64 a0_0, .int .i64 a0_1, .int .i64 a0_2, .string t115, .string (⟨#[]⟩ : ByteArray), .string (⟨#[]⟩ : ByteArray), .string (⟨#[]⟩ : ByteArray), .int .i64 0, .int .i64 0, .int .i64 0, .slice none 0 0, .int .u8 0, .int .i64 0, .int .i64 0, .int .i64 0, .int .u32 0, .int .i64 0]) ?_ 4 _ rfl; (with_reducible repeat (first | refine blk_drewN ?_ _ | refine blk_drew ?_ | refine blk_alloc ?_ _)); refine blk_put (cs := #[.int .i64 a0_0, .int .i64 a0_1, .int .i64 a0_2, .string (⟨#[]⟩ : ByteArray), .string (⟨#[]⟩ : ByteArray), .string (⟨#[]⟩ : ByteArray), .string (⟨#[]⟩ : ByteArray), .int .i64 0, .int .i64 0, .int .i64 0, .slice none 0 0, .int .u8 0, .int .i64 0, .int .i64 0, .int .i64 0, .int .u32 0, .int .i64 0]) ?_ 3 _ rfl; (with_reducible repeat (first | refine blk_drewN ?_ _ | refine blk_drew ?_ | refine blk_alloc ?_ _)); refine blk_put (cs := #[.int .i64 a0_0, .int .i64 a0_1, .int .i64 0, .string (⟨#[]⟩ : ByteArray), .string (⟨#[]⟩ : ByteArray), .string (⟨#[]⟩ : ByteArray), .string (⟨#[]⟩ : ByteArray), .int .i64 0, .int .i64 0, .int .i64 0, .slice none 0 0, .int .u8 0, .int .i64 0, .int .i64 0, .int .i64 0, .int .u32 0, .int .i64 0]) ?_ 2 _ rfl; (with_reducible repeat (first | refine blk_drewN ?_ _ | refine blk_drew ?_ | refine blk_alloc ?_ _)); refine blk_put (cs := #[.int .i64 a0_0, .int .i64 0, .int .i64 0, .string (⟨#[]⟩ : ByteArray), .string (⟨#[]⟩ : ByteArray), .string (⟨#[]⟩ : ByteArray), .string (⟨#[]⟩ : ByteArray), .int .i64 0, .int .i64 0, .int .i64 0, .slice none 0 0, .int .u8 0, .int .i64 0, .int .i64 0, .int .i64 0, .int .u32 0, .int .i64 0]) ?_ 1 _ rfl; (with_reducible repeat (first | refine blk_drewN ?_ _ | refine blk_drew ?_ | refine blk_alloc ?_ _)); refine blk_put (cs := #[.int .i64 0, .int .i64 0, .int .i64 0, .string (⟨#[]⟩ : ByteArray), .string (⟨#[]⟩ : ByteArray), .string (⟨#[]⟩ : ByteArray), .string (⟨#[]⟩ : ByteArray), .int .i64 0, .int .i64 0, .int .i64 0, .slice none 0 0, .int .u8 0, .int .i64 0, .int .i64 0, .int .i64 0, .int .u32 0, .int .i64 0]) ?_ 0 _ rfl; (with_reducible repeat (first | refine blk_drewN ?_ _ | refine blk_drew ?_ | refine blk_alloc ?_ _)); refine blk_far ?_ NB114_113.out _; (with_reducible repeat (first | refine blk_drewN ?_ _ | refine blk_drew ?_ | refine blk_alloc ?_ _)); refine blk_far ?_ NB114_113.out _; (with_reducible repeat (first | refine blk_drewN ?_ _ | refine blk_drew ?_ | refine blk_alloc ?_ _)); refine blk_far ?_ NB114_113.out _; (with_reducible repeat (first | refine blk_drewN ?_ _ | refine blk_drew ?_ | refine blk_alloc ?_ _)); refine blk_far ?_ NB114_113.out _; (with_reducible repeat (first | refine blk_drewN ?_ _ | refine blk_drew ?_ | refine blk_alloc ?_ _)); refine blk_far ?_ NB114_113.out _; (with_reducible repeat (first | refine blk_drewN ?_ _ | refine blk_drew ?_ | refine blk_alloc ?_ _)); refine blk_far ?_ NB114_113.out _; (with_reducible repeat (first | refine blk_drewN ?_ _ | refine blk_drew ?_ | refine blk_alloc ?_ _)); refine blk_far ?_ NB114_113.out _; (with_reducible repeat (first | refine blk_drewN ?_ _ | refine blk_drew ?_ | refine blk_alloc ?_ _)); refine blk_far ?_ NB114_113.out _; (with_reducible repeat (first | refine blk_drewN ?_ _ | refine blk_drew ?_ | refine blk_alloc ?_ _)); exact BK114.out) Try.underlying53 rfl (by kernel_rfl)) rfl ?_
  exact ⟨_, by first | rfl | (simp [errW_none, errW_some] <;> rfl) | (simp [*, errW_none, errW_some] <;> rfl), by (with_reducible repeat (first | apply Kd.R_alloc | apply Kd.R_drewN | apply Kd.R_drew)); exact Kd.R_mono (Kd.R_far (p := ⟨gb114, 16, none⟩) (Kd.R_far (p := ⟨gb114, 15, none⟩) (Kd.R_far (p := ⟨gb114, 14, none⟩) (Kd.R_far (p := ⟨gb114, 13, none⟩) (Kd.R_far (p := ⟨gb114, 12, none⟩) (Kd.R_far (p := ⟨gb114, 11, none⟩) (Kd.R_far (p := ⟨gb114, 10, none⟩) (Kd.R_far (p := ⟨gb114, 9, none⟩) (Kd.R_far (p := ⟨gb114, 8, none⟩) (Kd.R_far (p := ⟨gb114, 7, none⟩) (Kd.R_far (p := ⟨gb114, 6, none⟩) (Kd.R_far (p := ⟨gb114, 5, none⟩) (Kd.R_far (p := ⟨gb114, 4, none⟩) (Kd.R_far (p := ⟨gb114, 3, none⟩) (Kd.R_far (p := ⟨gb114, 2, none⟩) (Kd.R_far (p := ⟨gb114, 1, none⟩) (Kd.R_far (p := ⟨gb114, 0, none⟩) (Kd.R_far (p := ⟨gb113, 10, none⟩) (Kd.R_far (p := ⟨gb113, 9, none⟩) (Kd.R_far (p := ⟨gb113, 8, none⟩) (Kd.R_far (p := ⟨gb113, 7, none⟩) (Kd.R_far (p := ⟨gb113, 6, none⟩) (Kd.R_far (p := ⟨gb113, 5, none⟩) (Kd.R_far (p := ⟨gb113, 4, none⟩) (Kd.R_far (p := ⟨gb113, 3, none⟩) (Kd.R_types (Kd.R_types HO124.out BK113.out (by decide)) BK114.out (by decide)) (fun _ hk => hk.1.2) (.string t115)) (fun _ hk => hk.1.2) (.string t116)) (fun _ hk => hk.1.2) (.string t117)) (fun _ hk => hk.1.2) (.string t118)) (fun _ hk => hk.1.2) (.int .i64 t119)) (fun _ hk => hk.1.2) (.int .i64 t120)) (fun _ hk => hk.1.2) (.int .i64 t121)) (fun _ hk => hk.1.2) (.slice Ao9 t122.length co9)) (fun _ hk => hk.2) (.int .i64 a0_0)) (fun _ hk => hk.2) (.int .i64 a0_1)) (fun _ hk => hk.2) (.int .i64 a0_2)) (fun _ hk => hk.2) (.string t115)) (fun _ hk => hk.2) (.string t116)) (fun _ hk => hk.2) (.string t117)) (fun _ hk => hk.2) (.string t118)) (fun _ hk => hk.2) (.int .i64 t119)) (fun _ hk => hk.2) (.int .i64 t120)) (fun _ hk => hk.2) (.int .i64 t121)) (fun _ hk => hk.2) (.slice Ao9 t122.length co9)) (fun _ hk => hk.2) (.int .u8 a0_11)) (fun _ hk => hk.2) (.int .i64 a0_12)) (fun _ hk => hk.2) (.int .i64 a0_13)) (fun _ hk => hk.2) (.int .i64 a0_14)) (fun _ hk => hk.2) (.int .u32 a0_15)) (fun _ hk => hk.2) (.int .i64 a0_16)) (fun _ hk => trivial), by repeat (first | (with_reducible first | exact HB.out | apply below_alloc | apply pw_below_drewN | apply below_drew1 | refine below_set ?_ GE113.out | refine below_set ?_ GE114.out) | exact HB.out)⟩

/-! ### musterkit_CopyJobs: function 10 -/
def musterkit_CopyJobs.l0 : Nat → List (S53) → List (S53) → Int → Option ((List (S53)))
  | 0, _, _, _ => none
  | k + 1, x0, x3, x4 => if x4 < (x0.length : Int) then (if 0 ≤ x4 then ((musterkit_CopyJob.f k ((rd_T53 x0 x4).f0) ((rd_T53 x0 x4).f1) ((rd_T53 x0 x4).f2) ((rd_T53 x0 x4).f3.f0) ((rd_T53 x0 x4).f3.f1) ((rd_T53 x0 x4).f3.f2) ((rd_T53 x0 x4).f3.f3) ((rd_T53 x0 x4).f3.f4) ((rd_T53 x0 x4).f3.f5) ((rd_T53 x0 x4).f3.f6) ((rd_T53 x0 x4).f3.f7) ((rd_T53 x0 x4).f4) ((rd_T53 x0 x4).f5) ((rd_T53 x0 x4).f6) ((rd_T53 x0 x4).f7) ((rd_T53 x0 x4).f8) ((rd_T53 x0 x4).f9)).bind fun bt126 => (if x3.length < 764877654105 then (musterkit_CopyJobs.l0 k x0 (x3 ++ [(⟨bt126.1, bt126.2.1, bt126.2.2.1, (⟨bt126.2.2.2.1, bt126.2.2.2.2.1, bt126.2.2.2.2.2.1, bt126.2.2.2.2.2.2.1, bt126.2.2.2.2.2.2.2.1, bt126.2.2.2.2.2.2.2.2.1, bt126.2.2.2.2.2.2.2.2.2.1, bt126.2.2.2.2.2.2.2.2.2.2.1⟩ : S32), bt126.2.2.2.2.2.2.2.2.2.2.2.1, bt126.2.2.2.2.2.2.2.2.2.2.2.2.1, bt126.2.2.2.2.2.2.2.2.2.2.2.2.2.1, bt126.2.2.2.2.2.2.2.2.2.2.2.2.2.2.1, bt126.2.2.2.2.2.2.2.2.2.2.2.2.2.2.2.1, bt126.2.2.2.2.2.2.2.2.2.2.2.2.2.2.2.2⟩ : S53)]) (wrap64 (x4 + 1))) else (none))) else (none)) else (some x3)
def musterkit_CopyJobs.f (k : Nat) (l0 : List (S53)) : Option ((List (S53))) := musterkit_CopyJobs.l0 k l0 ([] : List (S53)) 0
theorem musterkit_CopyJobs.mono_l : ∀ k, (∀ y0 y1 y2, LeO (musterkit_CopyJobs.l0 k y0 y1 y2) (musterkit_CopyJobs.l0 (k + 1) y0 y1 y2))
  | 0 => fun _ _ _ r h => by simp [musterkit_CopyJobs.l0] at h
  | k + 1 => by
    have ih0 := musterkit_CopyJobs.mono_l k
    · intro y0 y1 y2
      unfold musterkit_CopyJobs.l0
      repeat' first
      | (with_reducible exact ih0 _ _ _)
      | (with_reducible exact musterkit_CopyJob.mono _ _ _ _ _ _ _ _ _ _ _ _ _ _ _ _ _ _)
      | (with_reducible exact LeO.refl _)
      | (with_reducible exact LeO.none _)
      | (with_reducible refine LeO.ite ?_ ?_)
      | (with_reducible refine LeO.bind ?_ (fun _ => ?_))
      | exact ih0 _ _ _
      | exact musterkit_CopyJob.mono _ _ _ _ _ _ _ _ _ _ _ _ _ _ _ _ _ _
      | exact LeO.none _
      | refine LeO.ite ?_ ?_
      | refine LeO.bind ?_ (fun _ => ?_)
theorem musterkit_CopyJobs.mono : ∀ a0 k, LeO (musterkit_CopyJobs.f k a0) (musterkit_CopyJobs.f (k + 1) a0) := by
  intro a0 k
  have ih0 := musterkit_CopyJobs.mono_l k
  unfold musterkit_CopyJobs.f
  repeat' first
      | (with_reducible exact ih0 _ _ _)
      | (with_reducible exact musterkit_CopyJob.mono _ _ _ _ _ _ _ _ _ _ _ _ _ _ _ _ _ _)
      | (with_reducible exact LeO.refl _)
      | (with_reducible exact LeO.none _)
      | (with_reducible refine LeO.ite ?_ ?_)
      | (with_reducible refine LeO.bind ?_ (fun _ => ?_))
      | exact ih0 _ _ _
      | exact musterkit_CopyJob.mono _ _ _ _ _ _ _ _ _ _ _ _ _ _ _ _ _ _
      | exact LeO.none _
      | refine LeO.ite ?_ ?_
      | refine LeO.bind ?_ (fun _ => ?_)
set_option maxHeartbeats 8000000 in
set_option maxRecDepth 100000 in
theorem musterkit_CopyJobs.calls (k : Nat) (A0 : Option Addr) (c0 : Nat) (l0 : List (S53)) (r : List (S53)) (w : World) (hr0 : Kd.C k53 w A0 l0.length l0) (hc0 : l0.length ≤ c0) (h : musterkit_CopyJobs.f k l0 = some r) :
    Calls Try.prog 10 #[.slice A0 l0.length c0] w fun e w' => ∃ v0_ : Value, e = .returned (v0_) ∧ Kd.S k53 53 w' w.heap.size (fun _ => True) v0_ r ∧ Below w.heap.size w w' := by
  have hu53 := Try.underlying53
  have HR0 := Aside0.mk hr0
  have HC0 := Aside0.mk hc0
  clear hr0 hc0
  have HB := Aside0.mk (Below.refl w.heap.size w)
  have H : (musterkit_CopyJobs.l0 k l0 ([] : List (S53)) 0) = some r := h
  clear h
  have H' := Aside0.mk H
  clear H
  go_enter Try.func10, Try.ntmps10
  go_wp2
  go_loopg [3, 4] k (fun kq v3 v4 w' => ∃ (x3_1 : List (S53)) (x4_1 : Int), v4 = .int .i64 x4_1 ∧ Aside0 (musterkit_CopyJobs.l0 kq l0 x3_1 x4_1 = some r) ∧ Aside0 (kq ≤ k) ∧ Aside0 (Kd.S k53 53 w' w.heap.size (fun _ => True) v3 x3_1) ∧ Aside0 (Below w.heap.size w w'))
  case atStart => exact ⟨(([] : List (S53))), (0), (by first | rfl | (simp; done) | (simp [*]; done)), H', ⟨Nat.le_refl _⟩, ⟨by first | exact Kd.S_nil _ _ _ _ _ | exact Kd.N_nil _ _ _ _ _ | exact Kd.V_nil _ _ _ _ _ | exact Kd.Q_nil _ _ _ _ _ | exact Kd.R_nil _ _ _ _ _⟩, ⟨by repeat (first | (with_reducible first | exact HB.out | apply below_alloc | apply pw_below_drewN | apply below_drew1) | exact HB.out)⟩⟩
  case round =>
    clear H'
    try clear c1
    obtain ⟨x3_1, x4_1, rfl, HA, HK1, HO_3, HB⟩ := hrel
    cases gk with
    | zero => exact absurd HA.out (by simp [musterkit_CopyJobs.l0])
    | succ k1 =>
      have H := HA.out
      clear HA
      simp only [musterkit_CopyJobs.l0] at H
      by_cases c2 : x4_1 < (l0.length : Int)
      · rw [if_pos c2] at H
        have c2b0 : decide (x4_1 < (l0.length : Int)) = true := decide_eq_true c2
        clear c2
        by_cases c3 : 0 ≤ x4_1
        · rw [if_pos c3] at H
          have c3b0 : decide (0 ≤ x4_1) = true := decide_eq_true c3
          clear c3
          replace H := Option.bind_eq_some_iff.mp H
          obtain ⟨⟨t126, t127, t128, t129, t130, t131, t132, t133, t134, t135, t136, t139, t140, t141, t142, t143, t144⟩, A40, H⟩ := H
          replace H : (if x3_1.length < 764877654105 then (musterkit_CopyJobs.l0 k1 l0 (x3_1 ++ [(⟨t126, t127, t128, (⟨t129, t130, t131, t132, t133, t134, t135, t136⟩ : S32), t139, t140, t141, t142, t143, t144⟩ : S53)]) (wrap64 (x4_1 + 1))) else (none)) = some r := H
          have A4 := Aside0.mk A40
          clear A40
          by_cases c5 : x3_1.length < 764877654105
          · rw [if_pos c5] at H
            have LMc5 := Aside0.mk c5
            clear c5
            obtain ⟨y145, hy145⟩ : ∃ y_ : List (S53), y_ = (x3_1 ++ [(⟨t126, t127, t128, (⟨t129, t130, t131, t132, t133, t134, t135, t136⟩ : S32), t139, t140, t141, t142, t143, t144⟩ : S53)]) := ⟨_, rfl⟩
            replace H : (musterkit_CopyJobs.l0 k1 l0 y145 (wrap64 (x4_1 + 1))) = some r := by first | (rw [hy145]; with_reducible exact H) | (have H2_ := (Option.bind_some _ _).symm.trans H; rw [hy145]; with_reducible exact H2_) | (have H2_ := (Option.bind_some _ _).symm.trans H; with_reducible exact H2_) | with_reducible exact H | (rw [hy145]; exact H) | exact H
            have Ny145 := Aside0.mk hy145
            clear hy145
            have H' := Aside0.mk H
            clear H
            have p125 : 0 ≤ (x4_1 : Int) := of_decide_eq_true (by first | (with_reducible assumption) | assumption)
            have q125 : x4_1 < (l0.length : Int) := of_decide_eq_true (by first | (with_reducible assumption) | assumption)
            obtain ⟨ad125, A125_10, c125_10, e125, hx125_0, hx125_1, hx125_2, hx125_3, hx125_4, hx125_5, hx125_6, hx125_7, hx125_8, hx125_9, hx125_10, hx125_11, hx125_12, hx125_13, hx125_14, hx125_15, hx125_16, hl125_10, hi125_10⟩ := at_T53 HR0.out x4_1 p125 q125
            cases e125
            replace hx125_0 := (HB.out.cell (World.block_lt_of_cell? w _ hx125_0)).trans hx125_0
            replace hx125_1 := (HB.out.cell (World.block_lt_of_cell? w _ hx125_1)).trans hx125_1
            replace hx125_2 := (HB.out.cell (World.block_lt_of_cell? w _ hx125_2)).trans hx125_2
            replace hx125_3 := (HB.out.cell (World.block_lt_of_cell? w _ hx125_3)).trans hx125_3
            replace hx125_4 := (HB.out.cell (World.block_lt_of_cell? w _ hx125_4)).trans hx125_4
            replace hx125_5 := (HB.out.cell (World.block_lt_of_cell? w _ hx125_5)).trans hx125_5
            replace hx125_6 := (HB.out.cell (World.block_lt_of_cell? w _ hx125_6)).trans hx125_6
            replace hx125_7 := (HB.out.cell (World.block_lt_of_cell? w _ hx125_7)).trans hx125_7
            replace hx125_8 := (HB.out.cell (World.block_lt_of_cell? w _ hx125_8)).trans hx125_8
            replace hx125_9 := (HB.out.cell (World.block_lt_of_cell? w _ hx125_9)).trans hx125_9
            replace hx125_10 := (HB.out.cell (World.block_lt_of_cell? w _ hx125_10)).trans hx125_10
            replace hx125_11 := (HB.out.cell (World.block_lt_of_cell? w _ hx125_11)).trans hx125_11
            replace hx125_12 := (HB.out.cell (World.block_lt_of_cell? w _ hx125_12)).trans hx125_12
            replace hx125_13 := (HB.out.cell (World.block_lt_of_cell? w _ hx125_13)).trans hx125_13
            replace hx125_14 := (HB.out.cell (World.block_lt_of_cell? w _ hx125_14)).trans hx125_14
            replace hx125_15 := (HB.out.cell (World.block_lt_of_cell? w _ hx125_15)).trans hx125_15
            replace hx125_16 := (HB.out.cell (World.block_lt_of_cell? w _ hx125_16)).trans hx125_16
            have HR125_10 := Aside0.mk hi125_10
            have HC125_10 := Aside0.mk hl125_10
            clear hi125_10 hl125_10
            replace p125 := eq_true p125
            replace q125 := eq_true q125
            go_wp2_with (first | ((with_reducible refine gate_callee (f := 27) rfl ?_); refine goesL_ (some 16) rfl rfl Try.func27 (by kernel_rfl) rfl #[.agg #[.int .i64 ((rd_T53 l0 x4_1).f0), .int .i64 ((rd_T53 l0 x4_1).f1), .int .i64 ((rd_T53 l0 x4_1).f2), .string ((rd_T53 l0 x4_1).f3.f0), .string ((rd_T53 l0 x4_1).f3.f1), .string ((rd_T53 l0 x4_1).f3.f2), .string ((rd_T53 l0 x4_1).f3.f3), .int .i64 ((rd_T53 l0 x4_1).f3.f4), .int .i64 ((rd_T53 l0 x4_1).f3.f5), .int .i64 ((rd_T53 l0 x4_1).f3.f6), .slice A125_10 ((rd_T53 l0 x4_1).f3.f7).length c125_10, .int .u8 ((rd_T53 l0 x4_1).f4), .int .i64 ((rd_T53 l0 x4_1).f5), .int .i64 ((rd_T53 l0 x4_1).f6), .int .i64 ((rd_T53 l0 x4_1).f7), .int .u32 ((rd_T53 l0 x4_1).f8), .int .i64 ((rd_T53 l0 x4_1).f9)]] rfl (by (try simp only [List.map_toArray, List.map_cons, List.map_nil]); first | done | rfl | (simp only [List.length_drop, List.length_take]; rfl)) ?_; (with_reducible refine (musterkit_CopyJob.calls k1 ((rd_T53 l0 x4_1).f0) ((rd_T53 l0 x4_1).f1) ((rd_T53 l0 x4_1).f2) ((rd_T53 l0 x4_1).f3.f0) ((rd_T53 l0 x4_1).f3.f1) ((rd_T53 l0 x4_1).f3.f2) ((rd_T53 l0 x4_1).f3.f3) ((rd_T53 l0 x4_1).f3.f4) ((rd_T53 l0 x4_1).f3.f5) ((rd_T53 l0 x4_1).f3.f6) _ _ ((rd_T53 l0 x4_1).f3.f7) ((rd_T53 l0 x4_1).f4) ((rd_T53 l0 x4_1).f5) ((rd_T53 l0 x4_1).f6) ((rd_T53 l0 x4_1).f7) ((rd_T53 l0 x4_1).f8) ((rd_T53 l0 x4_1).f9) t126 t127 t128 t129 t130 t131 t132 t133 t134 t135 t136 t139 t140 t141 t142 t143 t144 _ ?side1 ?side2 A4.out).mono ?_); (case side1 => repeat (first | exact (Kd.C_below HR125_10.out HB.out) | (with_reducible refine Kd.C_alloc ?_ _) | (with_reducible refine Kd.C_drewN ?_ _) | (with_reducible refine Kd.C_drew ?_))); (case side2 => exact HC125_10.out); rintro e w6 ⟨v137, rfl, ho0, hb⟩; refine ⟨_, rfl, ?_⟩; have n0_ := Aside0.mk (Kd.S_elder' (by (with_reducible repeat (first | apply Kd.S_alloc | apply Kd.S_drewN | apply Kd.S_drew)); exact HO_3.out) (Kd.R_base ho0) hb); have n1_ := Aside0.mk (Kd.R_lower ho0 (below_size (by repeat (first | (with_reducible first | exact HB.out | apply below_alloc | apply pw_below_drewN | apply below_drew1) | exact HB.out)))); have n2_ := Aside0.mk (below_step (by repeat (first | (with_reducible first | exact HB.out | apply below_alloc | apply pw_below_drewN | apply below_drew1) | exact HB.out)) hb); clear HO_3; clear HB; have HO_3 := n0_; have HO138 := n1_; have HB := n2_; clear n0_ n1_ n2_; (try clear hb); (try clear hb2); (try clear hk); (try clear hi); (try clear ho0); obtain ⟨Ao8, co8, eo8⟩ := Kd.R_slice HO138.out; subst eo8) | ((with_reducible refine gate_builtin (b := .append) (xs := #[.tmp 11, .tmp 17]) rfl ?_); at_builtin; refine Kd.S_append k53 (w0 := w) w.heap.size rfl (.tmp 11) (.tmp 17) 29 53 (.agg #[(.int .i64 0), (.int .i64 0), (.int .i64 0), (.string ⟨#[]⟩), (.string ⟨#[]⟩), (.string ⟨#[]⟩), (.string ⟨#[]⟩), (.int .i64 0), (.int .i64 0), (.int .i64 0), (.slice none 0 0), (.int .u8 0), (.int .i64 0), (.int .i64 0), (.int .i64 0), (.int .u32 0), (.int .i64 0)]) 184 rfl Try.underlying29 info53 rfl (by decide) (by omega) u3 x3_1 (⟨t126, t127, t128, (⟨t129, t130, t131, t132, t133, t134, t135, t136⟩ : S32), t139, t140, t141, t142, t143, t144⟩ : S53) [.int .i64 t126, .int .i64 t127, .int .i64 t128, .string t129, .string t130, .string t131, .string t132, .int .i64 t133, .int .i64 t134, .int .i64 t135, .slice Ao8 t136.length co8, .int .u8 t139, .int .i64 t140, .int .i64 t141, .int .i64 t142, .int .u32 t143, .int .i64 t144] (fun _ => True) (fun k_ => some k_ = (.slice Ao8 t136.length co8 : Value).ownBlock) rfl rfl ?aP (fun k_ hk_ => ((Kd.R_mono (ok' := fun k_ => ((fun _ => True)) k_ ∧ some k_ ≠ (u3 : Value).ownBlock) (Kd.R_apart' (HO138.out) (Kd.S_typed HO_3.out) (by decide)) (fun k_ hk => ⟨trivial, hk.2⟩))).1 k_ hk_.symm) ?aF ?aO ?aB ?aS ?aL ?_; (case aP => exact k53_mkM _ _ _ (⟨t126, t127, t128, (⟨t129, t130, t131, t132, t133, t134, t135, t136⟩ : S32), t139, t140, t141, t142, t143, t144⟩ : S53) (Kd.R_mono (Kd.R_tight rfl (Kd.R_mono (ok' := fun k_ => ((fun _ => True)) k_ ∧ some k_ ≠ (u3 : Value).ownBlock) (Kd.R_apart' (HO138.out) (Kd.S_typed HO_3.out) (by decide)) (fun k_ hk => ⟨trivial, hk.2⟩))) (fun _ h_ => h_))); (case aB => exact (by repeat (first | (with_reducible first | exact HB.out | apply below_alloc | apply pw_below_drewN | apply below_drew1) | exact HB.out))); (case aF => exact (fun _ _ => trivial)); (case aO => exact (by (with_reducible repeat (first | apply Kd.S_alloc | apply Kd.S_drewN | apply Kd.S_drew)); exact Kd.S_mono HO_3.out (fun k_ hk => ⟨trivial, fun e_ => hk.2 e_⟩))); (case aS => exact (below_size (by repeat (first | (with_reducible first | exact HB.out | apply below_alloc | apply pw_below_drewN | apply below_drew1) | exact HB.out)))); (case aL => have := LMc5.out; omega); intro v146 w7 ho hb hg hat; rw [← Ny145.out] at ho; have n0_ := Aside0.mk (hb); have n1_ := Aside0.mk (ho); clear HB; clear HO_3; clear HO138; have HB := n0_; have HO147 := n1_; clear n0_ n1_; clear ho hb hg hat))
            go_roundg k1
            case measure => have := HK1.out; omega
            case rel => exact ⟨(y145), (wrap64 (x4_1 + 1)), (by first | rfl | (simp; done) | (simp [*]; done)), H', ⟨by have := HK1.out; omega⟩, ⟨by (with_reducible repeat (first | apply Kd.S_alloc | apply Kd.S_drewN | apply Kd.S_drew)); exact HO147.out⟩, ⟨by repeat (first | (with_reducible first | exact HB.out | apply below_alloc | apply pw_below_drewN | apply below_drew1) | exact HB.out)⟩⟩
          · rw [if_neg c5] at H
            exact absurd H (by simp)
        · rw [if_neg c3] at H
          exact absurd H (by simp)
      · rw [if_neg c2] at H
        have c2b0 : decide (x4_1 < (l0.length : Int)) = false := decide_eq_false c2
        clear c2
        obtain rfl := Option.some.inj H
        go_wp2
        go_ret
        exact ⟨_, by first | rfl | (simp [errW_none, errW_some] <;> rfl) | (simp [*, errW_none, errW_some] <;> rfl), by (with_reducible repeat (first | apply Kd.S_alloc | apply Kd.S_drewN | apply Kd.S_drew)); exact HO_3.out, by repeat (first | (with_reducible first | exact HB.out | apply below_alloc | apply pw_below_drewN | apply below_drew1) | exact HB.out)⟩

end Go.Proofs.Ytcnobkcddgcifaa.PT
/- The kit's CopyJobs, in plain Lean; the law's closure. (A part of the print PT.) -/
set_option linter.unusedVariables false
set_option linter.unusedSimpArgs false
namespace Go.Proofs.Ytcnobkcddgcifaa.PT
open Go.RowKit Go.Proofs.YtcnobkcddgcifaaW.PrintWords Go.Proofs.YtcnobkcddgcifaaW.PrintLast Go.Proofs.YtcnobkcddgcifaaW.PrintMore Go.Proofs.Ytcnobkcddgcifaa.Gen Go.Proofs.Ytcnobkcddgcifaa.EvK
theorem rdDep {l : List S112} {j : Nat} (h : j < l.length) : rd_T112 l j = l[j] := by unfold rd_T112; simp [List.getD, h]
theorem rdJob {l : List S53} {j : Nat} (h : j < l.length) : rd_T53 l j = l[j] := by unfold rd_T53; simp [List.getD, h]
theorem copyDeps_l0 (l : List S112) (hl : l.length < 8796093022208) : ∀ (k j : Nat), j ≤ l.length → l.length - j < k → musterkit_CopyDeps.l0 k l (l.take j) j = some l := by
  intro k
  induction k with
  | zero => intro j _ h; omega
  | succ k ih =>
    intro j hj hk
    unfold musterkit_CopyDeps.l0
    by_cases h : j < l.length
    · rw [if_pos (by omega), if_pos (by omega), if_pos (by rw [List.length_take]; omega), rdDep h, wr1 (by omega)]
      have := ih (j + 1) (by omega) (by omega)
      rw [List.take_succ_eq_append_getElem h] at this
      exact this
    · rw [if_neg (by omega), List.take_of_length_le (by omega)]
theorem copyDeps (l : List S112) (hl : l.length < 8796093022208) (k : Nat) (hk : l.length < k) : musterkit_CopyDeps.f k l = some l := copyDeps_l0 l hl k 0 (Nat.zero_le _) (by omega)

/-- How long the lists of dependencies are, in all. -/
def depLen (l : List S53) : Nat := (l.map fun x => x.f3.f7.length).sum + 1
theorem depLen_lt {l : List S53} {x : S53} (h : x ∈ l) : x.f3.f7.length < depLen l := by
  unfold depLen
  induction l with
  | nil => cases h
  | cons y l ih =>
    rw [List.map_cons, List.sum_cons]
    rcases List.mem_cons.1 h with rfl | h
    · omega
    · have := ih h; omega
theorem copyJob (x : S53) (k : Nat) (hd : x.f3.f7.length < 8796093022208) (hk : x.f3.f7.length < k) :
    musterkit_CopyJob.f k x.f0 x.f1 x.f2 x.f3.f0 x.f3.f1 x.f3.f2 x.f3.f3 x.f3.f4 x.f3.f5 x.f3.f6 x.f3.f7 x.f4 x.f5 x.f6 x.f7 x.f8 x.f9 = some (x.f0, x.f1, x.f2, x.f3.f0, x.f3.f1, x.f3.f2, x.f3.f3, x.f3.f4, x.f3.f5, x.f3.f6, x.f3.f7, x.f4, x.f5, x.f6, x.f7, x.f8, x.f9) := by
  unfold musterkit_CopyJob.f musterkit_CopySpec.f
  rw [copyDeps _ hd k hk]
  rfl
theorem copyJobs_l0 (l : List S53) (hl : l.length < 764877654105) (D : Nat) (hd : ∀ x ∈ l, x.f3.f7.length < 8796093022208 ∧ x.f3.f7.length < D) : ∀ (k j : Nat), j ≤ l.length → l.length - j + D < k → musterkit_CopyJobs.l0 k l (l.take j) j = some l := by
  intro k
  induction k with
  | zero => intro j _ h; omega
  | succ k ih =>
    intro j hj hk
    unfold musterkit_CopyJobs.l0
    by_cases h : j < l.length
    · have hx := hd l[j] (List.getElem_mem h)
      rw [if_pos (by omega), if_pos (by omega), rdJob h, copyJob l[j] k hx.1 (by omega), Option.bind_some, if_pos (by rw [List.length_take]; omega), wr1 (by omega)]
      have := ih (j + 1) (by omega) (by omega)
      rw [List.take_succ_eq_append_getElem h] at this
      exact this
    · rw [if_neg (by omega), List.take_of_length_le (by omega)]
theorem copyJobs (l : List S53) (hl : l.length < 764877654105) (hd : ∀ x ∈ l, x.f3.f7.length < 8796093022208) (k : Nat) (hk : l.length + depLen l < k) : musterkit_CopyJobs.f k l = some l :=
  copyJobs_l0 l hl (depLen l) (fun x hx => ⟨hd x hx, depLen_lt hx⟩) k 0 (Nat.zero_le _) (by omega)
theorem copyJ_calls (js : List S53) (hl : js.length ≤ 1000000) (hj : ∀ x ∈ js, x.f3.f7.length < 8796093022208) (A : Option Addr) (c : Nat) (w : World) (hr : Kd.C k53 w A js.length js) (hc : js.length ≤ c) :
    Calls Try.prog 10 #[.slice A js.length c] w fun e w' => ∃ A' c', e = .returned (.slice A' js.length c') ∧ Kd.R k53 53 w' w.heap.size (fun _ => True) (.slice A' js.length c') js ∧ Below w.heap.size w w' := by
  refine (musterkit_CopyJobs.calls (js.length + depLen js + 1) A c js js w hr hc (copyJobs js (by omega) hj _ (by omega))).mono ?_
  rintro e w' ⟨v, rfl, hs, hb⟩
  have hR := Kd.S_R hs
  obtain ⟨A', c', rfl⟩ := Kd.R_slice hR
  exact ⟨A', c', rfl, hR, hb⟩
/-- The spec that the law's examples ask for. -/
def askS (account : ByteArray) (cores : Int) : S32 := ⟨⟨#[]⟩, account, ⟨#[110, 111, 114, 109, 97, 108]⟩, ⟨#[]⟩, 1, cores, 0, []⟩
set_option maxRecDepth 100000 in
theorem ask_calls (account : ByteArray) (cores : Int) (w : World) : Calls Try.prog 22 #[.string account, .int .i64 cores] w fun e w' => e = .returned (.agg (specC (askS account cores) none 0)) ∧ Below w.heap.size w w' := by
  have HB := Lib.hid (below_alloc (Below.refl w.heap.size w) (.cells #[.string ⟨#[]⟩, .string account, .string ⟨#[110, 111, 114, 109, 97, 108]⟩, .string ⟨#[]⟩, .int .i64 1, .int .i64 cores, .int .i64 0, .slice none 0 0] 32))
  go_enter Try.func22, Try.ntmps22
  go_wp2
  refine bodyPost_ret (results_cell_row rfl _ _ w.heap.size 32 (specC (askS account cores) none 0) (0, 0) _ rfl (heap_alloc_new w _) Try.underlying32 rfl infoSpec) rfl ?_
  exact ⟨rfl, HB.out⟩
end Go.Proofs.Ytcnobkcddgcifaa.PT
/- The law's examples. (A part of the print PT.) -/
set_option linter.unusedVariables false
set_option linter.unusedSimpArgs false
namespace Go.Proofs.Ytcnobkcddgcifaa.PT
open Go.RowKit Go.Proofs.YtcnobkcddgcifaaW.PrintWords Go.Proofs.YtcnobkcddgcifaaW.PrintLast Go.Proofs.YtcnobkcddgcifaaW.PrintMore Go.Proofs.Ytcnobkcddgcifaa.Gen Go.Proofs.Ytcnobkcddgcifaa.EvK
/-- A row that was laid down reads as its elements. -/
theorem C_lit {α : Type} (d : Kd α) {w : World} {g t : Nat} {cells : Array Value} (h : w.heap[g]? = some (.cells cells t (0, 0))) (xs : List α) (css : Nat → List Value) (hl : xs.length ≤ 1000) (hk : ∀ j x, xs[j]? = some x → (css j).length = d.sz ∧ d.K w x (css j) ∧ ∀ i v, (css j)[i]? = some v → cells[j * d.sz + i]? = some v) : Kd.C d w (some ⟨g, 0, none⟩) xs.length xs := by
  refine ⟨rfl, by omega, fun _ => ⟨_, rfl, fun j x hx => ?_⟩⟩
  obtain ⟨h1, h2, h3⟩ := hk j x hx
  refine ⟨css j, h1, h2, fun i v hv => ?_⟩
  rw [Addr.add_mid, Nat.zero_add, blk_cell h]
  exact h3 i v hv
theorem exec_loadC {P : Program} {o : Oper} {a : Act} {t : TypeId} {x : Operand} {p V : Value} {w' : World} (ho : o.op = .load t x) (hx : a.eval x = p) (hld : (Instr.loadAt t p).run P w' = .ok V w') : (execOp a.eval o).run P w' = .ok (.value V) w' := by
  unfold execOp
  rw [ho]
  simp only [hx, Sem.run_bind, hld, Result.andThen_ok]
  rfl
section
variable {P : Program} {ops : Array Oper} {Q : Exit → Act → World → Prop}
/-- A function's value is called. -/
theorem goesV_ {oi : Oper} {N : Option Tmp} {a : Act} {w : World} {K : Act → World → Prop} {f : FuncId} {fn : Func} {as' : Array Operand} {ts : Array TypeId} (x : Operand) (hf : P.funcs[f]? = some fn) (hname : (fn.name == "runtime.NumGoroutine") = false) (hb : fn.body.isSome = true) (args : Array Value)
    (hw : Region.wanted oi (yielded ops a.tmps) = true) (hN : oi.dst = N) (hop : oi.op = .call { callee := .value x, args := as', argTypes := ts }) (hx : a.eval x = .func (.func f) #[] #[]) (hargs : as'.map a.eval = args)
    (h : Calls P f args w fun e w' => ∃ v, e = .returned v ∧ K (a.put N v) w') : if Region.wanted oi (yielded ops a.tmps) = true then Oper.wp P oi a w K Q else K (a.put N undef) w := by
  refine call_ f args hw hN ?_ h
  have he := enters_ hf hname hb args w
  unfold execOp
  simp [hop, resolve, Deferred.ofValue, invoke, hx, hargs, he]
end
abbrev sAll : ByteArray := ⟨#[97, 108, 108]⟩
abbrev sPhys : ByteArray := ⟨#[112, 104, 121, 115]⟩
abbrev sNorm : ByteArray := ⟨#[110, 111, 114, 109, 97, 108]⟩
def acE : List S57 := [⟨sAll, ⟨#[]⟩, 10⟩, ⟨sPhys, sAll, 8⟩]
def qE : List S59 := [⟨sNorm, 0, -1, 2⟩]
def jE1 : S53 := ⟨0, 0, 0, ⟨⟨#[]⟩, sPhys, sNorm, ⟨#[]⟩, 2, 3, 0, []⟩, 2, 0, 0, 0, 0, 0⟩
def jE2 : S53 := ⟨0, 0, 0, askS sAll 1, 2, 0, 0, 0, 0, 0⟩
theorem right_E : rightQ qE acE = true := by decide +kernel
theorem cores_E : coresQ qE acE [jE1] sAll = (6, 0) := by decide +kernel
theorem qos_E : qosQ qE acE [jE1] sNorm = (6, 1, 0) := by decide +kernel
theorem may_E1 : mayQ qE acE [jE1] (askS sPhys 2) = 0 := by decide +kernel
theorem may_E2 : mayQ qE acE [jE1] (askS sPhys 3) = 150 := by decide +kernel
theorem may_E3 : mayQ qE acE [jE1] (askS sAll 4) = 0 := by decide +kernel
theorem may_E4 : mayQ qE acE [jE1, jE2] (askS sAll 1) = 150 := by decide +kernel
theorem infoJobZ : (Try.prog.info? 53).map (fun i => (i.zero, i.size, i.bytes)) = some (some (.agg #[.int .i64 0, .int .i64 0, .int .i64 0, .string ⟨#[]⟩, .string ⟨#[]⟩, .string ⟨#[]⟩, .string ⟨#[]⟩, .int .i64 0, .int .i64 0, .int .i64 0, .slice none 0 0, .int .u8 0, .int .i64 0, .int .i64 0, .int .i64 0, .int .u32 0, .int .i64 0]), 17, 184) := by kernel_rfl
def awake15.T7 : Bool × List (List Nat × List Nat) := (true, [([], []), ([0], [0]), ([1, 1], [1]), ([2], [2]), ([3, 2], [2, 3]), ([2, 4], [2, 4]), ([5, 2], [5]), ([6], [6]), ([7, 6], [6, 7]), ([6, 8], [6, 8]), ([9, 6], [9]), ([10], [10]), ([11, 10], [10, 11]), ([10, 12], [10, 12]), ([13, 10], [13]), ([14], [14]), ([15, 14], [14, 15]), ([14, 16], [14, 16]), ([17, 14], [17]), ([18], [18]), ([19, 18], [18, 19]), ([18, 20], [18, 20]), ([21, 18], [21]), ([22], [22]), ([22], [22]), ([22], [22]), ([25, 22, 22], [22, 25]), ([23, 24, 26, 26, 22], [22, 23, 24, 26]), ([27, 22], [22, 27]), ([22, 28], [22, 28]), ([29, 27], [29]), ([30], [30]), ([30], [30]), ([30], [30]), ([33, 30, 30], [30, 33]), ([31, 32, 34, 34, 30], [30, 31, 32, 34]), ([35, 30], [30, 35]), ([30, 36], [30, 36]), ([37, 35], [37]), ([38], [38]), ([38], [38]), ([38], [38]), ([41, 38, 38], [38, 41]), ([39, 40, 42, 42, 38], [38, 39, 40, 42]), ([43, 38], [38, 43]), ([38, 44], [38, 44]), ([45, 43], [45]), ([46], [46]), ([46], [46]), ([46], [46]), ([49, 46, 46], [46, 49]), ([47, 48, 50, 50, 46], [46, 47, 48, 50]), ([51, 46], [46, 51]), ([46, 52], [46, 52]), ([53, 51, 0, 1, 2, 3, 4, 5, 6, 7, 8, 9, 10, 11, 12, 13, 14, 15, 16, 17, 18, 19, 20, 21, 22, 23, 24, 25, 26, 27, 28, 29, 30, 31, 32, 33, 34, 35, 36, 37, 38, 39, 40, 41, 42, 43, 44, 45, 46, 47, 48, 49, 50, 51, 52, 53], [53])])
def awake15.B7 : List Nat := [0, 1, 3, 7, 15, 31, 63, 127, 255, 511, 1023, 2047, 4095, 8191, 16383, 32767, 65535, 131071, 262143, 524287, 1048575, 2097151, 4194303, 8388607, 8388607, 8388607, 41943039, 134217727, 268435455, 536870911, 1073741823, 2147483647, 2147483647, 2147483647, 10737418239, 34359738367, 68719476735, 137438953471, 274877906943, 549755813887, 549755813887, 549755813887, 2748779069439, 8796093022207, 17592186044415, 35184372088831, 70368744177663, 140737488355327, 140737488355327, 140737488355327, 703687441776639, 2251799813685247, 4503599627370495, 9007199254740991, 18014398509481983]
theorem awake15.tab7 : rtab .any (opsOf Try.f8 7) = awake15.T7 := by kernel_rfl
theorem awake15.bits7 : waitsOk awake15.T7.2 awake15.B7 = true := by kernel_rfl
set_option maxRecDepth 100000 in
set_option maxHeartbeats 8000000 in
theorem awake15_calls (w : World) : Calls Try.prog 8 #[] w fun e w' => e = .returned (.bool true) ∧ Below w.heap.size w w' := by
  go_enter Try.func8, Try.ntmps8
  go_upto_region 2 with (fail)
  have hA : (((w.alloc (.cells #[.string sAll, .string ⟨#[]⟩, .int .i64 10, .string sPhys, .string sAll, .int .i64 8] 57)).alloc (.cells #[.string sNorm, .int .i64 0, .int .i64 (-1), .int .i64 2] 59)).alloc (.cells (cfgV none 0 0 none 0 0 (some ⟨w.heap.size, 0, none⟩) 2 2 (some ⟨w.heap.size + 1, 0, none⟩) 1 1 0) 28)).heap[w.heap.size]? = some (.cells #[.string sAll, .string ⟨#[]⟩, .int .i64 10, .string sPhys, .string sAll, .int .i64 8] 57 (0, 0)) := ((below_alloc (below_alloc (Below.refl (w.alloc (.cells #[.string sAll, .string ⟨#[]⟩, .int .i64 10, .string sPhys, .string sAll, .int .i64 8] 57)).heap.size _) _) _).block w.heap.size (new_lt w _)).trans (heap_alloc_new w _)
  have hQ : (((w.alloc (.cells #[.string sAll, .string ⟨#[]⟩, .int .i64 10, .string sPhys, .string sAll, .int .i64 8] 57)).alloc (.cells #[.string sNorm, .int .i64 0, .int .i64 (-1), .int .i64 2] 59)).alloc (.cells (cfgV none 0 0 none 0 0 (some ⟨w.heap.size, 0, none⟩) 2 2 (some ⟨w.heap.size + 1, 0, none⟩) 1 1 0) 28)).heap[w.heap.size + 1]? = some (.cells #[.string sNorm, .int .i64 0, .int .i64 (-1), .int .i64 2] 59 (0, 0)) := by
    rw [← World.size_alloc w (.cells #[.string sAll, .string ⟨#[]⟩, .int .i64 10, .string sPhys, .string sAll, .int .i64 8] 57)]
    exact ((below_alloc (Below.refl ((w.alloc (.cells #[.string sAll, .string ⟨#[]⟩, .int .i64 10, .string sPhys, .string sAll, .int .i64 8] 57)).alloc (.cells #[.string sNorm, .int .i64 0, .int .i64 (-1), .int .i64 2] 59)).heap.size _) _).block _ (new_lt _ _)).trans (heap_alloc_new _ _)
  have hC : (((w.alloc (.cells #[.string sAll, .string ⟨#[]⟩, .int .i64 10, .string sPhys, .string sAll, .int .i64 8] 57)).alloc (.cells #[.string sNorm, .int .i64 0, .int .i64 (-1), .int .i64 2] 59)).alloc (.cells (cfgV none 0 0 none 0 0 (some ⟨w.heap.size, 0, none⟩) 2 2 (some ⟨w.heap.size + 1, 0, none⟩) 1 1 0) 28)).heap[w.heap.size + 1 + 1]? = some (.cells (cfgV none 0 0 none 0 0 (some ⟨w.heap.size, 0, none⟩) 2 2 (some ⟨w.heap.size + 1, 0, none⟩) 1 1 0) 28 (0, 0)) := by
    have e : ((w.alloc (.cells #[.string sAll, .string ⟨#[]⟩, .int .i64 10, .string sPhys, .string sAll, .int .i64 8] 57)).alloc (.cells #[.string sNorm, .int .i64 0, .int .i64 (-1), .int .i64 2] 59)).heap.size = w.heap.size + 1 + 1 := by rw [World.size_alloc, World.size_alloc]
    rw [← e]
    exact heap_alloc_new _ _
  have hB : Below w.heap.size w (((w.alloc (.cells #[.string sAll, .string ⟨#[]⟩, .int .i64 10, .string sPhys, .string sAll, .int .i64 8] 57)).alloc (.cells #[.string sNorm, .int .i64 0, .int .i64 (-1), .int .i64 2] 59)).alloc (.cells (cfgV none 0 0 none 0 0 (some ⟨w.heap.size, 0, none⟩) 2 2 (some ⟨w.heap.size + 1, 0, none⟩) 1 1 0) 28)) := below_alloc (below_alloc (below_alloc (Below.refl _ _) _) _) _
  have HA := Lib.hid hA
  have HQ := Lib.hid hQ
  have HC := Lib.hid hC
  have HB := Lib.hid hB
  clear hA hQ hC hB
  unfold cfgV at HA HQ HC HB
  generalize ((w.alloc _).alloc _).alloc _ = W at HA HQ HC HB ⊢
  obtain ⟨g, hg⟩ : ∃ g, g = w.heap.size := ⟨_, rfl⟩
  rw [← hg] at HA HQ HC ⊢
  clear hg
  go_upto_region 4 with (fail)
  have HJ := Lib.hid (heap_alloc_new W (.cells (jobC jE1 none 0) 53))
  have HA1 := Lib.hid (((below_alloc (Below.refl W.heap.size W) (.cells (jobC jE1 none 0) 53)).block g (blk_lt HA.out)).trans HA.out)
  have HQ1 := Lib.hid (((below_alloc (Below.refl W.heap.size W) (.cells (jobC jE1 none 0) 53)).block (g + 1) (blk_lt HQ.out)).trans HQ.out)
  have HC1 := Lib.hid (((below_alloc (Below.refl W.heap.size W) (.cells (jobC jE1 none 0) 53)).block (g + 1 + 1) (blk_lt HC.out)).trans HC.out)
  have HB1 := Lib.hid (below_alloc HB.out (.cells (jobC jE1 none 0) 53))
  unfold jobC jE1 at HJ HA1 HQ1 HC1 HB1
  simp only [List.length_nil] at HJ HA1 HQ1 HC1 HB1
  generalize W.alloc _ = W1 at HJ HA1 HQ1 HC1 HB1 ⊢
  obtain ⟨gj, hgj⟩ : ∃ x, x = W.heap.size := ⟨_, rfl⟩
  rw [← hgj] at HJ ⊢
  clear hgj HA HQ HC HB
  have HKj := Lib.hid (show Kd.C k53 W1 (some ⟨gj, 0, none⟩) [jE1].length [jE1] from C_lit k53 HJ.out [jE1] (fun _ => (jobC jE1 none 0).toList) (by decide) (fun j x hx => by
    match j, hx with
    | 0, hx => exact (Option.some.inj hx) ▸ ⟨rfl, k53_mk _ jE1 (c10 := 0) (Nat.le_refl _) (Kd.C_nil _ _), fun i v hv => by rw [Nat.zero_mul, Nat.zero_add, List.getElem?_toArray]; exact hv⟩))
  have HCf := Lib.hid (show Cfg W1 (cfgV none 0 0 none 0 0 (some ⟨g, 0, none⟩) 2 2 (some ⟨g + 1, 0, none⟩) 1 1 0) qE acE from ⟨none, 0, [], none, 0, [], some ⟨g, 0, none⟩, 2, some ⟨g + 1, 0, none⟩, 1, 0, rfl, Kd.C_nil _ _, Nat.le_refl _, Kd.C_nil _ _, Nat.le_refl _,
    C_lit k57 HA1.out acE (fun j => if j = 0 then [.string sAll, .string ⟨#[]⟩, .int .i64 10] else [.string sPhys, .string sAll, .int .i64 8]) (by decide) (fun j x hx => by
      match j, hx with
      | 0, hx => exact (Option.some.inj hx) ▸ ⟨rfl, k57_mk _ _, fun i v hv => by
          match i, hv with
          | 0, hv => exact hv
          | 1, hv => exact hv
          | 2, hv => exact hv⟩
      | 1, hx => exact (Option.some.inj hx) ▸ ⟨rfl, k57_mk _ _, fun i v hv => by
          match i, hv with
          | 0, hv => exact hv
          | 1, hv => exact hv
          | 2, hv => exact hv⟩), Nat.le_refl _,
    C_lit k59 HQ1.out qE (fun _ => [.string sNorm, .int .i64 0, .int .i64 (-1), .int .i64 2]) (by decide) (fun j x hx => by
      match j, hx with
      | 0, hx => exact (Option.some.inj hx) ▸ ⟨rfl, k59_mk _ _, fun i v hv => by rw [Nat.zero_mul, Nat.zero_add, List.getElem?_toArray]; exact hv⟩), Nat.le_refl _⟩)
  have he : ∀ args w, (callFunc 22 args).run Try.prog w = .ok (.enter 22 args) w := enters_of Try.func22 (by kernel_rfl) rfl
  have HT1 := Lib.hid (show Tame [jE1] from ⟨fun x hx => by rw [List.mem_singleton.1 hx]; decide, by decide⟩)
  have HT2 := Lib.hid (show Tame [jE1, jE2] from ⟨fun x hx => by
    rcases List.mem_cons.1 hx with h | h
    · rw [h]; decide
    · rw [List.mem_singleton.1 h]; decide, by decide⟩)
  have HCo := Lib.hid (show Calls Try.prog 11 #[.agg (cfgV none 0 0 none 0 0 (some ⟨g, 0, none⟩) 2 2 (some ⟨g + 1, 0, none⟩) 1 1 0), .slice (some ⟨gj, 0, none⟩) 1 1, .string sAll] W1 fun e w' => e = .returned (.tuple #[.int .i64 6, .int .i64 0]) ∧ Below W1.heap.size W1 w' by
    have := cores_calls HCf.out (by decide) [jE1] (some ⟨gj, 0, none⟩) 1 sAll HKj.out (by decide) HT1.out
    rw [cores_E] at this
    exact this)
  have HQo := Lib.hid (fun W2 (hb : Below W1.heap.size W1 W2) => show Calls Try.prog 13 #[.agg (cfgV none 0 0 none 0 0 (some ⟨g, 0, none⟩) 2 2 (some ⟨g + 1, 0, none⟩) 1 1 0), .slice (some ⟨gj, 0, none⟩) 1 1, .string sNorm] W2 fun e w' => e = .returned (.tuple #[.int .i64 6, .int .i64 1, .int .i64 0]) ∧ Below W2.heap.size W2 w' by
    have := qos_calls (HCf.out.below hb) [jE1] (some ⟨gj, 0, none⟩) 1 sNorm (Kd.C_below HKj.out hb) (by decide) HT1.out
    rw [qos_E] at this
    exact this)
  have HRo := Lib.hid (fun W2 (hb : Below W1.heap.size W1 W2) => show Calls Try.prog 15 #[.agg (cfgV none 0 0 none 0 0 (some ⟨g, 0, none⟩) 2 2 (some ⟨g + 1, 0, none⟩) 1 1 0)] W2 fun e w' => e = .returned (.bool true) ∧ Below W2.heap.size W2 w' by
    have := cright_calls (HCf.out.below hb)
    rw [right_E] at this
    exact this)
  have HMo := Lib.hid (fun W2 (hb : Below W1.heap.size W1 W2) (a : ByteArray) (n r : Int) (h : mayQ qE acE [jE1] (askS a n) = r) (hn : tameS (askS a n) = true) => show Calls Try.prog 17 #[.agg (cfgV none 0 0 none 0 0 (some ⟨g, 0, none⟩) 2 2 (some ⟨g + 1, 0, none⟩) 1 1 0), .slice (some ⟨gj, 0, none⟩) 1 1, .agg (specC (askS a n) none 0)] W2 fun e w' => e = .returned (.int .i64 r) ∧ Below W2.heap.size W2 w' by
    have := cmay_calls (HCf.out.below hb) (by decide) [jE1] (some ⟨gj, 0, none⟩) 1 (Kd.C_below HKj.out hb) (by decide) HT1.out (askS a n) hn none 0 (Kd.C_nil _ _) (Nat.le_refl _)
    rw [h] at this
    exact this)
  have HMt := Lib.hid (fun W2 (hb : Below W1.heap.size W1 W2) (A' : Option Addr) (c' : Nat) (h1 : Kd.C k53 W2 A' 2 [jE1, jE2]) (h2 : 2 ≤ c') => show Calls Try.prog 17 #[.agg (cfgV none 0 0 none 0 0 (some ⟨g, 0, none⟩) 2 2 (some ⟨g + 1, 0, none⟩) 1 1 0), .slice A' 2 c', .agg (specC (askS sAll 1) none 0)] W2 fun e w' => e = .returned (.int .i64 150) ∧ Below W2.heap.size W2 w' by
    have := cmay_calls (HCf.out.below hb) (by decide) [jE1, jE2] A' c' h1 h2 HT2.out (askS sAll 1) (by decide) none 0 (Kd.C_nil _ _) (Nat.le_refl _)
    rw [may_E4] at this
    exact this)
  have HCp := Lib.hid (fun W2 (hb : Below W1.heap.size W1 W2) => show Calls Try.prog 10 #[.slice (some ⟨gj, 0, none⟩) 1 1] W2 fun e w' => ∃ A' c', e = .returned (.slice A' 1 c') ∧ Kd.R k53 53 w' W2.heap.size (fun _ => True) (.slice A' 1 c') [jE1] ∧ Below W2.heap.size W2 w' from
    copyJ_calls [jE1] (by decide) (fun x hx => by rw [List.mem_singleton.1 hx]; decide) (some ⟨gj, 0, none⟩) 1 W2 (Kd.C_below HKj.out hb) (by decide))
  clear HT1 HT2 HKj HCf HA1 HQ1 HJ
  go_wp2_with (first | ((with_reducible refine gate_ (.load 28 (.tmp 1)) rfl ?_); refine wl_load 28 (.tmp 1) rfl rfl _ _ rfl (cfg_ld HC1.out) ?_) | fail)
  refine HCo.out.mono ?_
  rintro e w2 ⟨rfl, hb⟩
  have HB2 := Lib.hid hb
  have HC2 := Lib.hid ((hb.block (g + 1 + 1) (blk_lt HC1.out)).trans HC1.out)
  clear hb HCo
  go_wp2_with (first | ((with_reducible refine gate_ (.load 28 (.tmp 1)) rfl ?_); refine wl_load 28 (.tmp 1) rfl rfl _ _ rfl (cfg_ld HC2.out) ?_) | fail)
  refine (HQo.out _ HB2.out).mono ?_
  rintro e w3 ⟨rfl, hb⟩
  have HB3 := Lib.hid (below_then HB2.out HB2.out.size hb)
  have HC3 := Lib.hid ((hb.block (g + 1 + 1) (blk_lt HC2.out)).trans HC2.out)
  clear hb HQo HB2 HC2
  go_wp2_with fail
  refine (HCp.out _ HB3.out).mono ?_
  rintro e w4 ⟨A', c', rfl, hR, hb⟩
  have HR4 := Lib.hid hR
  have HB34 := Lib.hid hb
  have HB4 := Lib.hid (below_then HB3.out HB3.out.size hb)
  have HC4 := Lib.hid ((hb.block (g + 1 + 1) (blk_lt HC3.out)).trans HC3.out)
  clear hb hR HCp
  go_wp2_with fail
  refine (ask_calls sAll 1 _).mono ?_
  rintro e w5 ⟨rfl, hb⟩
  unfold specC askS
  simp only [List.length_nil]
  have HR5 := Lib.hid (Kd.R_below HR4.out hb)
  have HB35 := Lib.hid (below_then HB34.out HB34.out.size hb)
  have HB5 := Lib.hid (below_then HB4.out HB4.out.size hb)
  have HC5 := Lib.hid ((hb.block (g + 1 + 1) (blk_lt HC4.out)).trans HC4.out)
  clear hb HR4 HB34 HB4 HC4
  go_upto_region 7 with ((with_reducible refine gate_builtin (b := .append) (xs := #[.tmp 33, .tmp 37]) rfl ?_); at_builtin; refine Kd.R_append k53 (w0 := w3) w3.heap.size rfl (.tmp 33) (.tmp 37) 29 53 (.agg #[.int .i64 0, .int .i64 0, .int .i64 0, .string ⟨#[]⟩, .string ⟨#[]⟩, .string ⟨#[]⟩, .string ⟨#[]⟩, .int .i64 0, .int .i64 0, .int .i64 0, .slice none 0 0, .int .u8 0, .int .i64 0, .int .i64 0, .int .i64 0, .int .u32 0, .int .i64 0]) 184 rfl Try.underlying29 infoJobZ rfl (by decide) (by decide) (.slice A' 1 c') [jE1] jE2 [.int .i64 0, .int .i64 0, .int .i64 0, .string ⟨#[]⟩, .string sAll, .string sNorm, .string ⟨#[]⟩, .int .i64 1, .int .i64 1, .int .i64 0, .slice none 0 0, .int .u8 2, .int .i64 0, .int .i64 0, .int .i64 0, .int .u32 0, .int .i64 0] (fun _ => True) (fun _ => False) rfl rfl (k53_mkM _ _ _ jE2 (Kd.R_nil _ _ _ _ _)) (fun _ hk => hk.elim) (fun _ _ => trivial) HR5.out HB35.out HB35.out.size (by decide) ?_; intro v6 w6 ho hb hg _; obtain ⟨A6, c6, hv⟩ := Kd.R_slice ho; subst hv; have HR6 := Lib.hid (show Kd.C k53 w6 A6 2 [jE1, jE2] ∧ 2 ≤ c6 from ⟨(Kd.R_reads' ho).2.2, (Kd.R_reads' ho).2.1⟩); have HB36 := Lib.hid hb; have HB6 := Lib.hid (below_then HB3.out HB3.out.size hb); have HC6 := Lib.hid ((hb.block (g + 1 + 1) (blk_lt HC3.out)).trans HC3.out); clear ho hb hg)
  have HBd := Lib.hid (below_drew (Below.refl w6.heap.size w6))
  have HRd := Lib.hid (cfg_ld (w := w6.drew) HC6.out)
  clear HR5 HB35 HB5 HC5 HC1 HC3 HB36 HB3
  refine start_ (n := 55) (S := fun w' => (Instr.loadAt 28 (.pointer (some ⟨g + 1 + 1, 0, none⟩))).run Try.prog w' = .ok (.agg (cfgV none 0 0 none 0 0 (some ⟨g, 0, none⟩) 2 2 (some ⟨g + 1, 0, none⟩) 1 1 0)) w') (ds := []) (lk 55 0) (by kernel_rfl) rfl rfl (HRd.out) (fun hHeld => ?_)
  refine with_tabW awake15.tab7 awake15.bits7 (fun HT_ HW_ => ?_)
  refine take_ (i := 0) (N := some 39) (v := ?_) (a' := ?_) (lk 55 1) rfl rfl (take_ofW HT_.out HW_.out (by kernel_rfl)) (fun _ _ _ h => h) (Or.inl ⟨by rfl, ?_⟩) hHeld ?_ ?_
  rotate_left
  · intro w' s0
    refine Eq.trans (exec_loadC (by rfl) (by rfl) s0) ?_
    with_reducible rfl
  rotate_left
  · simp only [Act.put, List.setIfInBounds_toArray, List.set_cons_zero, List.set_cons_succ, i64_w, i32_w]
    rfl
  refine on1 (i := 1) (N := some 40) (lk 55 3) (fun K hK => ?_)
  refine goes_ Try.func15 (by kernel_rfl) rfl #[.agg (cfgV none 0 0 none 0 0 (some ⟨g, 0, none⟩) 2 2 (some ⟨g + 1, 0, none⟩) 1 1 0)] (by rfl) rfl rfl (by simp only [List.map_toArray, List.map_cons, List.map_nil]; rfl) ?_
  with_reducible refine (HRo.out _ (below_then HB6.out HB6.out.size HBd.out)).mono ?_
  rintro e x1 ⟨rfl, hb⟩
  refine ⟨_, rfl, ?_⟩
  replace HBd := Lib.hid (below_then HBd.out HBd.out.size hb)
  clear hb
  refine hK.out _ _ (cfg_ld ((HBd.out.block (g + 1 + 1) (blk_lt HC6.out)).trans HC6.out)) (fun hHeld => ?_)
  clear hK K
  refine nm (some 40) ?_
  refine pu (i := 2) (N := some 41) (lk 55 7) ?_
  refine pu (i := 3) (N := some 42) (lk 55 15) ?_
  refine pu (i := 4) (N := some 43) (lk 55 31) ?_
  refine pu (i := 5) (N := some 44) (lk 55 63) ?_
  refine pu (i := 6) (N := some 45) (lk 55 127) ?_
  refine pu (i := 7) (N := some 46) (lk 55 255) ?_
  refine pu (i := 8) (N := some 47) (lk 55 511) ?_
  refine pu (i := 9) (N := some 48) (lk 55 1023) ?_
  refine pu (i := 10) (N := some 49) (lk 55 2047) ?_
  refine pu (i := 11) (N := some 50) (lk 55 4095) ?_
  refine pu (i := 12) (N := some 51) (lk 55 8191) ?_
  refine pu (i := 13) (N := some 52) (lk 55 16383) ?_
  refine pu (i := 14) (N := some 53) (lk 55 32767) ?_
  refine pu (i := 15) (N := some 54) (lk 55 65535) ?_
  refine pu (i := 16) (N := some 55) (lk 55 131071) ?_
  refine pu (i := 17) (N := some 56) (lk 55 262143) ?_
  refine pu (i := 18) (N := some 57) (lk 55 524287) ?_
  refine pu (i := 19) (N := some 58) (lk 55 1048575) ?_
  refine pu (i := 20) (N := some 59) (lk 55 2097151) ?_
  refine pu (i := 21) (N := some 60) (lk 55 4194303) ?_
  refine pu (i := 22) (N := some 61) (lk 55 8388607) ?_
  refine pu (i := 24) (N := some 63) (lk 55 25165823) ?_
  refine pu (i := 25) (N := some 64) (lk 55 58720255) ?_
  refine take_ (i := 23) (N := some 62) (v := ?_) (a' := ?_) (lk 55 67108863) rfl rfl (take_ofW HT_.out HW_.out (by kernel_rfl)) (fun _ _ _ h => h) (Or.inl ⟨by rfl, ?_⟩) hHeld ?_ ?_
  rotate_left
  · intro w' s0
    refine Eq.trans (exec_loadC (by rfl) (by rfl) s0) ?_
    with_reducible rfl
  rotate_left
  · simp only [Act.put, List.setIfInBounds_toArray, List.set_cons_zero, List.set_cons_succ, i64_w, i32_w]
    rfl
  refine on1 (i := 26) (N := some 65) (lk 55 134217727) (fun K hK => ?_)
  refine goesV_ (.tmp 64) Try.func22 (by kernel_rfl) rfl #[.string sPhys, .int .i64 2] (by rfl) rfl rfl rfl (by simp only [List.map_toArray, List.map_cons, List.map_nil]; rfl) ?_
  with_reducible refine (ask_calls sPhys 2 _).mono ?_
  rintro e x2 ⟨rfl, hb⟩
  refine ⟨_, rfl, ?_⟩
  replace HBd := Lib.hid (below_then HBd.out HBd.out.size hb)
  clear hb
  refine hK.out _ _ (cfg_ld ((HBd.out.block (g + 1 + 1) (blk_lt HC6.out)).trans HC6.out)) (fun hHeld => ?_)
  clear hK K
  refine nm (some 65) ?_
  refine on1 (i := 27) (N := some 66) (lk 55 268435455) (fun K hK => ?_)
  refine goes_ Try.func17 (by kernel_rfl) rfl #[.agg (cfgV none 0 0 none 0 0 (some ⟨g, 0, none⟩) 2 2 (some ⟨g + 1, 0, none⟩) 1 1 0), .slice (some ⟨gj, 0, none⟩) 1 1, .agg (specC (askS sPhys 2) none 0)] (by rfl) rfl rfl (by simp only [List.map_toArray, List.map_cons, List.map_nil]; rfl) ?_
  with_reducible refine (HMo.out _ (below_then HB6.out HB6.out.size HBd.out) sPhys 2 0 may_E1 (by decide)).mono ?_
  rintro e x3 ⟨rfl, hb⟩
  refine ⟨_, rfl, ?_⟩
  replace HBd := Lib.hid (below_then HBd.out HBd.out.size hb)
  clear hb
  refine hK.out _ _ (cfg_ld ((HBd.out.block (g + 1 + 1) (blk_lt HC6.out)).trans HC6.out)) (fun hHeld => ?_)
  clear hK K
  refine nm (some 66) ?_
  refine pu (i := 28) (N := some 67) (lk 55 536870911) ?_
  refine pu (i := 29) (N := some 68) (lk 55 1073741823) ?_
  refine pu (i := 30) (N := some 69) (lk 55 2147483647) ?_
  refine pu (i := 32) (N := some 71) (lk 55 6442450943) ?_
  refine pu (i := 33) (N := some 72) (lk 55 15032385535) ?_
  refine take_ (i := 31) (N := some 70) (v := ?_) (a' := ?_) (lk 55 17179869183) rfl rfl (take_ofW HT_.out HW_.out (by kernel_rfl)) (fun _ _ _ h => h) (Or.inl ⟨by rfl, ?_⟩) hHeld ?_ ?_
  rotate_left
  · intro w' s0
    refine Eq.trans (exec_loadC (by rfl) (by rfl) s0) ?_
    with_reducible rfl
  rotate_left
  · simp only [Act.put, List.setIfInBounds_toArray, List.set_cons_zero, List.set_cons_succ, i64_w, i32_w]
    rfl
  refine on1 (i := 34) (N := some 73) (lk 55 34359738367) (fun K hK => ?_)
  refine goesV_ (.tmp 72) Try.func22 (by kernel_rfl) rfl #[.string sPhys, .int .i64 3] (by rfl) rfl rfl rfl (by simp only [List.map_toArray, List.map_cons, List.map_nil]; rfl) ?_
  with_reducible refine (ask_calls sPhys 3 _).mono ?_
  rintro e x4 ⟨rfl, hb⟩
  refine ⟨_, rfl, ?_⟩
  replace HBd := Lib.hid (below_then HBd.out HBd.out.size hb)
  clear hb
  refine hK.out _ _ (cfg_ld ((HBd.out.block (g + 1 + 1) (blk_lt HC6.out)).trans HC6.out)) (fun hHeld => ?_)
  clear hK K
  refine nm (some 73) ?_
  refine on1 (i := 35) (N := some 74) (lk 55 68719476735) (fun K hK => ?_)
  refine goes_ Try.func17 (by kernel_rfl) rfl #[.agg (cfgV none 0 0 none 0 0 (some ⟨g, 0, none⟩) 2 2 (some ⟨g + 1, 0, none⟩) 1 1 0), .slice (some ⟨gj, 0, none⟩) 1 1, .agg (specC (askS sPhys 3) none 0)] (by rfl) rfl rfl (by simp only [List.map_toArray, List.map_cons, List.map_nil]; rfl) ?_
  with_reducible refine (HMo.out _ (below_then HB6.out HB6.out.size HBd.out) sPhys 3 150 may_E2 (by decide)).mono ?_
  rintro e x5 ⟨rfl, hb⟩
  refine ⟨_, rfl, ?_⟩
  replace HBd := Lib.hid (below_then HBd.out HBd.out.size hb)
  clear hb
  refine hK.out _ _ (cfg_ld ((HBd.out.block (g + 1 + 1) (blk_lt HC6.out)).trans HC6.out)) (fun hHeld => ?_)
  clear hK K
  refine nm (some 74) ?_
  refine pu (i := 36) (N := some 75) (lk 55 137438953471) ?_
  refine pu (i := 37) (N := some 76) (lk 55 274877906943) ?_
  refine pu (i := 38) (N := some 77) (lk 55 549755813887) ?_
  refine pu (i := 40) (N := some 79) (lk 55 1649267441663) ?_
  refine pu (i := 41) (N := some 80) (lk 55 3848290697215) ?_
  refine take_ (i := 39) (N := some 78) (v := ?_) (a' := ?_) (lk 55 4398046511103) rfl rfl (take_ofW HT_.out HW_.out (by kernel_rfl)) (fun _ _ _ h => h) (Or.inl ⟨by rfl, ?_⟩) hHeld ?_ ?_
  rotate_left
  · intro w' s0
    refine Eq.trans (exec_loadC (by rfl) (by rfl) s0) ?_
    with_reducible rfl
  rotate_left
  · simp only [Act.put, List.setIfInBounds_toArray, List.set_cons_zero, List.set_cons_succ, i64_w, i32_w]
    rfl
  refine on1 (i := 42) (N := some 81) (lk 55 8796093022207) (fun K hK => ?_)
  refine goesV_ (.tmp 80) Try.func22 (by kernel_rfl) rfl #[.string sAll, .int .i64 4] (by rfl) rfl rfl rfl (by simp only [List.map_toArray, List.map_cons, List.map_nil]; rfl) ?_
  with_reducible refine (ask_calls sAll 4 _).mono ?_
  rintro e x6 ⟨rfl, hb⟩
  refine ⟨_, rfl, ?_⟩
  replace HBd := Lib.hid (below_then HBd.out HBd.out.size hb)
  clear hb
  refine hK.out _ _ (cfg_ld ((HBd.out.block (g + 1 + 1) (blk_lt HC6.out)).trans HC6.out)) (fun hHeld => ?_)
  clear hK K
  refine nm (some 81) ?_
  refine on1 (i := 43) (N := some 82) (lk 55 17592186044415) (fun K hK => ?_)
  refine goes_ Try.func17 (by kernel_rfl) rfl #[.agg (cfgV none 0 0 none 0 0 (some ⟨g, 0, none⟩) 2 2 (some ⟨g + 1, 0, none⟩) 1 1 0), .slice (some ⟨gj, 0, none⟩) 1 1, .agg (specC (askS sAll 4) none 0)] (by rfl) rfl rfl (by simp only [List.map_toArray, List.map_cons, List.map_nil]; rfl) ?_
  with_reducible refine (HMo.out _ (below_then HB6.out HB6.out.size HBd.out) sAll 4 0 may_E3 (by decide)).mono ?_
  rintro e x7 ⟨rfl, hb⟩
  refine ⟨_, rfl, ?_⟩
  replace HBd := Lib.hid (below_then HBd.out HBd.out.size hb)
  clear hb
  refine hK.out _ _ (cfg_ld ((HBd.out.block (g + 1 + 1) (blk_lt HC6.out)).trans HC6.out)) (fun hHeld => ?_)
  clear hK K
  refine nm (some 82) ?_
  refine pu (i := 44) (N := some 83) (lk 55 35184372088831) ?_
  refine pu (i := 45) (N := some 84) (lk 55 70368744177663) ?_
  refine pu (i := 46) (N := some 85) (lk 55 140737488355327) ?_
  refine pu (i := 48) (N := some 87) (lk 55 422212465065983) ?_
  refine pu (i := 49) (N := some 88) (lk 55 985162418487295) ?_
  refine take_ (i := 47) (N := some 86) (v := ?_) (a' := ?_) (lk 55 1125899906842623) rfl rfl (take_ofW HT_.out HW_.out (by kernel_rfl)) (fun _ _ _ h => h) (Or.inl ⟨by rfl, ?_⟩) hHeld ?_ ?_
  rotate_left
  · intro w' s0
    refine Eq.trans (exec_loadC (by rfl) (by rfl) s0) ?_
    with_reducible rfl
  rotate_left
  · simp only [Act.put, List.setIfInBounds_toArray, List.set_cons_zero, List.set_cons_succ, i64_w, i32_w]
    rfl
  refine on1 (i := 50) (N := some 89) (lk 55 2251799813685247) (fun K hK => ?_)
  refine goesV_ (.tmp 88) Try.func22 (by kernel_rfl) rfl #[.string sAll, .int .i64 1] (by rfl) rfl rfl rfl (by simp only [List.map_toArray, List.map_cons, List.map_nil]; rfl) ?_
  with_reducible refine (ask_calls sAll 1 _).mono ?_
  rintro e x8 ⟨rfl, hb⟩
  refine ⟨_, rfl, ?_⟩
  replace HBd := Lib.hid (below_then HBd.out HBd.out.size hb)
  clear hb
  refine hK.out _ _ (cfg_ld ((HBd.out.block (g + 1 + 1) (blk_lt HC6.out)).trans HC6.out)) (fun hHeld => ?_)
  clear hK K
  refine nm (some 89) ?_
  refine on1 (i := 51) (N := some 90) (lk 55 4503599627370495) (fun K hK => ?_)
  refine goes_ Try.func17 (by kernel_rfl) rfl #[.agg (cfgV none 0 0 none 0 0 (some ⟨g, 0, none⟩) 2 2 (some ⟨g + 1, 0, none⟩) 1 1 0), .slice A6 2 c6, .agg (specC (askS sAll 1) none 0)] (by rfl) rfl rfl (by simp only [List.map_toArray, List.map_cons, List.map_nil]; rfl) ?_
  with_reducible refine (HMt.out _ (below_then HB6.out HB6.out.size HBd.out) A6 c6 (Kd.C_below HR6.out.1 HBd.out) HR6.out.2).mono ?_
  rintro e x9 ⟨rfl, hb⟩
  refine ⟨_, rfl, ?_⟩
  replace HBd := Lib.hid (below_then HBd.out HBd.out.size hb)
  clear hb
  refine hK.out _ _ (cfg_ld ((HBd.out.block (g + 1 + 1) (blk_lt HC6.out)).trans HC6.out)) (fun hHeld => ?_)
  clear hK K
  refine nm (some 90) ?_
  refine pu (i := 52) (N := some 91) (lk 55 9007199254740991) ?_
  refine pu (i := 53) (N := some 92) (lk 55 18014398509481983) ?_
  refine pu (i := 54) (N := some 0) (lk 55 36028797018963967) ?_
  refine done_ (done_of HT_.out (by kernel_rfl)) ?_
  
  go_wp2
  go_ret
  have hbf := below_then HB1.out HB1.out.size (below_then HB6.out HB6.out.size HBd.out)
  exact ⟨rfl, hbf⟩
end Go.Proofs.Ytcnobkcddgcifaa.PT
