/- For any fields and tag Right, Put and Get answer as the document defines; what is handed in stays. (The row.) -/
import Derived.Test.YtnhkbjihgepapaaRows
import Derived.WalkKit
import Derived.ProofKit
import Derived.OpenShut
import Derived.ShutString
import Derived.ChangeOld
import Derived.Below
import Derived.SizedLaws
import Derived.Test.YtnhkbjihgepapaaOpen
import Derived.Test.YtnhkbjihgepapaaPFx0

import Derived.Test.YtnhkbjihgepapaaWGuard


import Derived.Test.YtnhkbjihgepapaaFdGet

import Derived.Test.YtnhkbjihgepapaaFdPutE

import Derived.Test.YtnhkbjihgepapaaPFx18




namespace Go.Proofs.Ytnhkbjihgepapaa.PF
set_option linter.unusedVariables false
set_option linter.unusedSimpArgs false
open Go.RowKit Go.Proofs.YtnhkbjihgepapaaW.PrintWords Go.Proofs.YtnhkbjihgepapaaW.PrintLast Go.Proofs.YtnhkbjihgepapaaW.PrintMore
attribute [local go_sem] max2_int min2_int max_two min_two max_three min_three max_four min_four   -- for this text's walks alone
set_option linter.unusedVariables false
set_option linter.unusedSimpArgs false

/-! ### musterlow_CopyNumbers: function 34 -/
def musterlow_CopyNumbers.f (l0 : List Int) : Option (List Int) := if ([] : List Int).length + l0.length < 17592186044416 then (some (([] : List Int) ++ l0)) else (none)
set_option maxHeartbeats 8000000 in
set_option maxRecDepth 100000 in
theorem musterlow_CopyNumbers.calls (A0 : Option Addr) (c0 : Nat) (l0 : List Int) (r : List Int) (w : World) (hr0 : Kd.C (Kd.int .i64) w A0 l0.length l0) (hc0 : l0.length ≤ c0) (h : musterlow_CopyNumbers.f l0 = some r) :
    Calls Try.prog 34 #[.slice A0 l0.length c0] w fun e w' => ∃ v0_ : Value, e = .returned (v0_) ∧ Kd.R (Kd.int .i64) 2 w' w.heap.size (fun _ => True) v0_ r ∧ Below w.heap.size w w' := by
  have HR0 := Aside0.mk hr0
  have HC0 := Aside0.mk hc0
  clear hr0 hc0
  have HB := Aside0.mk (Below.refl w.heap.size w)
  have H : (if ([] : List Int).length + l0.length < 17592186044416 then (some (([] : List Int) ++ l0)) else (none)) = some r := h
  clear h
  by_cases c2 : ([] : List Int).length + l0.length < 17592186044416
  · rw [if_pos c2] at H
    have LMc2 := Aside0.mk c2
    clear c2
    obtain ⟨y286, hy286⟩ : ∃ y_ : List Int, y_ = (([] : List Int) ++ l0) := ⟨_, rfl⟩
    replace H : (some y286) = some r := by first | (rw [hy286]; with_reducible exact H) | (have H2_ := (Option.bind_some _ _).symm.trans H; rw [hy286]; with_reducible exact H2_) | (have H2_ := (Option.bind_some _ _).symm.trans H; with_reducible exact H2_) | with_reducible exact H | (rw [hy286]; exact H) | exact H
    have Ny286 := Aside0.mk hy286
    clear hy286
    obtain rfl := Option.some.inj H
    go_enter Try.func34, Try.ntmps34
    go_wp2_with (first | ((with_reducible refine gate_builtin (b := .append) (xs := #[.tmp 4, .tmp 5]) rfl ?_); at_builtin; refine Kd.R_append_rows (Kd.int .i64) (w0 := w) w.heap.size rfl (.tmp 4) (.tmp 5) 27 2 (.int .i64 0) 8 rfl Try.underlying27 info2 rfl (by decide) (by omega) (.slice none 0 0) ([] : List Int) l0 _ _ _ (fun _ => True) (fun _ => False) rfl rfl ?aO ?aR (fun _ _ h => h) (fun _ h => h.elim) ?aF ?aB ?aS ?aL ?_; (case aR => repeat (first | exact HR0.out | (with_reducible refine Kd.C_alloc ?_ _) | (with_reducible refine Kd.C_drewN ?_ _) | (with_reducible refine Kd.C_drew ?_))); (case aB => exact (by repeat (first | (with_reducible first | exact HB.out | apply below_alloc | apply pw_below_drewN | apply below_drew1) | exact HB.out))); (case aF => exact (fun _ _ => trivial)); (case aO => exact ((Kd.R_nil _ _ _ _ (fun _ => True)))); (case aS => exact (below_size (by repeat (first | (with_reducible first | exact HB.out | apply below_alloc | apply pw_below_drewN | apply below_drew1) | exact HB.out)))); (case aL => have := LMc2.out; omega); intro v287 w3 ho hb hg hat; rw [← Ny286.out] at ho; have n0_ := Aside0.mk (hb); have n1_ := Aside0.mk (ho); clear HB; have HB := n0_; have HO288 := n1_; clear n0_ n1_; clear ho hb hg hat))
    go_ret
    exact ⟨_, by first | rfl | (simp [errW_none, errW_some] <;> rfl) | (simp [*, errW_none, errW_some] <;> rfl), by (with_reducible repeat (first | apply Kd.R_alloc | apply Kd.R_drewN | apply Kd.R_drew)); exact HO288.out, by repeat (first | (with_reducible first | exact HB.out | apply below_alloc | apply pw_below_drewN | apply below_drew1) | exact HB.out)⟩
  · rw [if_neg c2] at H
    exact absurd H (by simp)

end Go.Proofs.Ytnhkbjihgepapaa.PF

namespace Go.Proofs.Ytnhkbjihgepapaa.PF
set_option linter.unusedVariables false
set_option linter.unusedSimpArgs false
open Go.RowKit Go.Proofs.YtnhkbjihgepapaaW.PrintWords Go.Proofs.YtnhkbjihgepapaaW.PrintLast Go.Proofs.YtnhkbjihgepapaaW.PrintMore
attribute [local go_sem] max2_int min2_int max_two min_two max_three min_three max_four min_four   -- for this text's walks alone
set_option linter.unusedVariables false
set_option linter.unusedSimpArgs false

/-! ### musterlow_CopyTexts: function 35 -/
def musterlow_CopyTexts.f (l0 : List ByteArray) : Option (List ByteArray) := if ([] : List ByteArray).length + l0.length < 8796093022208 then (some (([] : List ByteArray) ++ l0)) else (none)
set_option maxHeartbeats 8000000 in
set_option maxRecDepth 100000 in
theorem musterlow_CopyTexts.calls (A0 : Option Addr) (c0 : Nat) (l0 : List ByteArray) (r : List ByteArray) (w : World) (hr0 : Kd.C Kd.string w A0 l0.length l0) (hc0 : l0.length ≤ c0) (h : musterlow_CopyTexts.f l0 = some r) :
    Calls Try.prog 35 #[.slice A0 l0.length c0] w fun e w' => ∃ v0_ : Value, e = .returned (v0_) ∧ Kd.R Kd.string 9 w' w.heap.size (fun _ => True) v0_ r ∧ Below w.heap.size w w' := by
  have HR0 := Aside0.mk hr0
  have HC0 := Aside0.mk hc0
  clear hr0 hc0
  have HB := Aside0.mk (Below.refl w.heap.size w)
  have H : (if ([] : List ByteArray).length + l0.length < 8796093022208 then (some (([] : List ByteArray) ++ l0)) else (none)) = some r := h
  clear h
  by_cases c2 : ([] : List ByteArray).length + l0.length < 8796093022208
  · rw [if_pos c2] at H
    have LMc2 := Aside0.mk c2
    clear c2
    obtain ⟨y289, hy289⟩ : ∃ y_ : List ByteArray, y_ = (([] : List ByteArray) ++ l0) := ⟨_, rfl⟩
    replace H : (some y289) = some r := by first | (rw [hy289]; with_reducible exact H) | (have H2_ := (Option.bind_some _ _).symm.trans H; rw [hy289]; with_reducible exact H2_) | (have H2_ := (Option.bind_some _ _).symm.trans H; with_reducible exact H2_) | with_reducible exact H | (rw [hy289]; exact H) | exact H
    have Ny289 := Aside0.mk hy289
    clear hy289
    obtain rfl := Option.some.inj H
    go_enter Try.func35, Try.ntmps35
    go_wp2_with (first | ((with_reducible refine gate_builtin (b := .append) (xs := #[.tmp 4, .tmp 5]) rfl ?_); at_builtin; refine Kd.R_append_rows Kd.string (w0 := w) w.heap.size rfl (.tmp 4) (.tmp 5) 28 9 (.string ⟨#[]⟩) 16 rfl Try.underlying28 info9 rfl (by decide) (by omega) (.slice none 0 0) ([] : List ByteArray) l0 _ _ _ (fun _ => True) (fun _ => False) rfl rfl ?aO ?aR (fun _ _ h => h) (fun _ h => h.elim) ?aF ?aB ?aS ?aL ?_; (case aR => repeat (first | exact HR0.out | (with_reducible refine Kd.C_alloc ?_ _) | (with_reducible refine Kd.C_drewN ?_ _) | (with_reducible refine Kd.C_drew ?_))); (case aB => exact (by repeat (first | (with_reducible first | exact HB.out | apply below_alloc | apply pw_below_drewN | apply below_drew1) | exact HB.out))); (case aF => exact (fun _ _ => trivial)); (case aO => exact ((Kd.R_nil _ _ _ _ (fun _ => True)))); (case aS => exact (below_size (by repeat (first | (with_reducible first | exact HB.out | apply below_alloc | apply pw_below_drewN | apply below_drew1) | exact HB.out)))); (case aL => have := LMc2.out; omega); intro v290 w3 ho hb hg hat; rw [← Ny289.out] at ho; have n0_ := Aside0.mk (hb); have n1_ := Aside0.mk (ho); clear HB; have HB := n0_; have HO291 := n1_; clear n0_ n1_; clear ho hb hg hat))
    go_ret
    exact ⟨_, by first | rfl | (simp [errW_none, errW_some] <;> rfl) | (simp [*, errW_none, errW_some] <;> rfl), by (with_reducible repeat (first | apply Kd.R_alloc | apply Kd.R_drewN | apply Kd.R_drew)); exact HO291.out, by repeat (first | (with_reducible first | exact HB.out | apply below_alloc | apply pw_below_drewN | apply below_drew1) | exact HB.out)⟩
  · rw [if_neg c2] at H
    exact absurd H (by simp)

end Go.Proofs.Ytnhkbjihgepapaa.PF

namespace Go.Proofs.Ytnhkbjihgepapaa.PF
set_option linter.unusedVariables false
set_option linter.unusedSimpArgs false
open Go.RowKit Go.Proofs.YtnhkbjihgepapaaW.PrintWords Go.Proofs.YtnhkbjihgepapaaW.PrintLast Go.Proofs.YtnhkbjihgepapaaW.PrintMore
attribute [local go_sem] max2_int min2_int max_two min_two max_three min_three max_four min_four   -- for this text's walks alone
set_option linter.unusedVariables false
set_option linter.unusedSimpArgs false

/-! ### musterlow_CopyFields: function 14 -/
def musterlow_CopyFields.l0 : Nat → List (S30) → List (S30) → Int → Option ((List (S30)))
  | 0, _, _, _ => none
  | k + 1, x0, x3, x4 => if x4 < (x0.length : Int) then (if 0 ≤ x4 then ((musterlow_CopyNumbers.f ((rd_T30 x0 x4).f4)).bind fun t294 => ((musterlow_CopyTexts.f ((rd_T30 x0 x4).f5)).bind fun t297 => (if x3.length < 1759218604441 then (musterlow_CopyFields.l0 k x0 (x3 ++ [(⟨(rd_T30 x0 x4).f0, (rd_T30 x0 x4).f1, (rd_T30 x0 x4).f2, (rd_T30 x0 x4).f3, t294, t297⟩ : S30)]) (wrap64 (x4 + 1))) else (none)))) else (none)) else (some x3)
def musterlow_CopyFields.f (k : Nat) (l0 : List (S30)) : Option ((List (S30))) := musterlow_CopyFields.l0 k l0 ([] : List (S30)) 0
theorem musterlow_CopyFields.mono_l : ∀ k, (∀ y0 y1 y2, LeO (musterlow_CopyFields.l0 k y0 y1 y2) (musterlow_CopyFields.l0 (k + 1) y0 y1 y2))
  | 0 => fun _ _ _ r h => by simp [musterlow_CopyFields.l0] at h
  | k + 1 => by
    have ih0 := musterlow_CopyFields.mono_l k
    · intro y0 y1 y2
      unfold musterlow_CopyFields.l0
      repeat' first
      | (with_reducible exact ih0 _ _ _)
      | (with_reducible exact LeO.refl _)
      | (with_reducible exact LeO.none _)
      | (with_reducible refine LeO.ite ?_ ?_)
      | (with_reducible refine LeO.bind ?_ (fun _ => ?_))
      | exact ih0 _ _ _
      | exact LeO.none _
      | refine LeO.ite ?_ ?_
      | refine LeO.bind ?_ (fun _ => ?_)
theorem musterlow_CopyFields.mono : ∀ a0 k, LeO (musterlow_CopyFields.f k a0) (musterlow_CopyFields.f (k + 1) a0) := by
  intro a0 k
  have ih0 := musterlow_CopyFields.mono_l k
  unfold musterlow_CopyFields.f
  repeat' first
      | (with_reducible exact ih0 _ _ _)
      | (with_reducible exact LeO.refl _)
      | (with_reducible exact LeO.none _)
      | (with_reducible refine LeO.ite ?_ ?_)
      | (with_reducible refine LeO.bind ?_ (fun _ => ?_))
      | exact ih0 _ _ _
      | exact LeO.none _
      | refine LeO.ite ?_ ?_
      | refine LeO.bind ?_ (fun _ => ?_)
def musterlow_CopyFields.T6 : Bool × List (List Nat × List Nat) := (true, [([], []), ([0], [0]), ([1], [1]), ([], []), ([3], [3]), ([4, 2], [4]), ([0, 1, 2, 3, 4], []), ([6, 2, 5, 0, 1, 2, 3, 4], [2, 6]), ([0, 1, 2, 3, 4, 5, 6, 7], []), ([8, 5, 7, 0, 1, 2, 3, 4, 5, 6, 7], [5, 8])])
def musterlow_CopyFields.B6 : List Nat := [0, 1, 3, 0, 8, 31, 31, 127, 255, 511]
theorem musterlow_CopyFields.tab6 : rtab .any (opsOf Try.f14 6) = musterlow_CopyFields.T6 := by kernel_rfl
theorem musterlow_CopyFields.bits6 : waitsOk musterlow_CopyFields.T6.2 musterlow_CopyFields.B6 = true := by kernel_rfl
set_option maxHeartbeats 8000000 in
set_option maxRecDepth 100000 in
theorem musterlow_CopyFields.calls (k : Nat) (A0 : Option Addr) (c0 : Nat) (l0 : List (S30)) (r : List (S30)) (w : World) (hr0 : Kd.C k30 w A0 l0.length l0) (hc0 : l0.length ≤ c0) (h : musterlow_CopyFields.f k l0 = some r) :
    Calls Try.prog 14 #[.slice A0 l0.length c0] w fun e w' => ∃ v0_ : Value, e = .returned (v0_) ∧ Kd.S k30 30 w' w.heap.size (fun _ => True) v0_ r ∧ Below w.heap.size w w' := by
  have hu30 := Try.underlying30
  have HR0 := Aside0.mk hr0
  have HC0 := Aside0.mk hc0
  clear hr0 hc0
  have HB := Aside0.mk (Below.refl w.heap.size w)
  have H : (musterlow_CopyFields.l0 k l0 ([] : List (S30)) 0) = some r := h
  clear h
  have H' := Aside0.mk H
  clear H
  go_enter Try.func14, Try.ntmps14
  go_wp2
  go_loopg [3, 4] k (fun kq v3 v4 w' => ∃ (x3_1 : List (S30)) (x4_1 : Int), v4 = .int .i64 x4_1 ∧ Aside0 (musterlow_CopyFields.l0 kq l0 x3_1 x4_1 = some r) ∧ Aside0 (kq ≤ k) ∧ Aside0 (Kd.S k30 30 w' w.heap.size (fun _ => True) v3 x3_1) ∧ Aside0 (Below w.heap.size w w'))
  case atStart => exact ⟨(([] : List (S30))), (0), (by first | rfl | (simp; done) | (simp [*]; done)), H', ⟨Nat.le_refl _⟩, ⟨by first | exact Kd.S_nil _ _ _ _ _ | exact Kd.N_nil _ _ _ _ _ | exact Kd.V_nil _ _ _ _ _ | exact Kd.Q_nil _ _ _ _ _ | exact Kd.R_nil _ _ _ _ _⟩, ⟨by repeat (first | (with_reducible first | exact HB.out | apply below_alloc | apply pw_below_drewN | apply below_drew1) | exact HB.out)⟩⟩
  case round =>
    clear H'
    try clear c1
    obtain ⟨x3_1, x4_1, rfl, HA, HK1, HO_3, HB⟩ := hrel
    cases gk with
    | zero => exact absurd HA.out (by simp [musterlow_CopyFields.l0])
    | succ k1 =>
      have H := HA.out
      clear HA
      simp only [musterlow_CopyFields.l0] at H
      by_cases c2 : x4_1 < (l0.length : Int)
      · rw [if_pos c2] at H
        have c2b0 : decide (x4_1 < (l0.length : Int)) = true := decide_eq_true c2
        clear c2
        by_cases c3 : 0 ≤ x4_1
        · rw [if_pos c3] at H
          have c3b0 : decide (0 ≤ x4_1) = true := decide_eq_true c3
          clear c3
          replace H := Option.bind_eq_some_iff.mp H
          obtain ⟨t294, A40, H⟩ := H
          replace H : ((musterlow_CopyTexts.f ((rd_T30 l0 x4_1).f5)).bind fun t297 => (if x3_1.length < 1759218604441 then (musterlow_CopyFields.l0 k1 l0 (x3_1 ++ [(⟨(rd_T30 l0 x4_1).f0, (rd_T30 l0 x4_1).f1, (rd_T30 l0 x4_1).f2, (rd_T30 l0 x4_1).f3, t294, t297⟩ : S30)]) (wrap64 (x4_1 + 1))) else (none))) = some r := H
          have A4 := Aside0.mk A40
          clear A40
          replace H := Option.bind_eq_some_iff.mp H
          obtain ⟨t297, A50, H⟩ := H
          replace H : (if x3_1.length < 1759218604441 then (musterlow_CopyFields.l0 k1 l0 (x3_1 ++ [(⟨(rd_T30 l0 x4_1).f0, (rd_T30 l0 x4_1).f1, (rd_T30 l0 x4_1).f2, (rd_T30 l0 x4_1).f3, t294, t297⟩ : S30)]) (wrap64 (x4_1 + 1))) else (none)) = some r := H
          have A5 := Aside0.mk A50
          clear A50
          by_cases c6 : x3_1.length < 1759218604441
          · rw [if_pos c6] at H
            have LMc6 := Aside0.mk c6
            clear c6
            obtain ⟨y300, hy300⟩ : ∃ y_ : List (S30), y_ = (x3_1 ++ [(⟨(rd_T30 l0 x4_1).f0, (rd_T30 l0 x4_1).f1, (rd_T30 l0 x4_1).f2, (rd_T30 l0 x4_1).f3, t294, t297⟩ : S30)]) := ⟨_, rfl⟩
            replace H : (musterlow_CopyFields.l0 k1 l0 y300 (wrap64 (x4_1 + 1))) = some r := by first | (rw [hy300]; with_reducible exact H) | (have H2_ := (Option.bind_some _ _).symm.trans H; rw [hy300]; with_reducible exact H2_) | (have H2_ := (Option.bind_some _ _).symm.trans H; with_reducible exact H2_) | with_reducible exact H | (rw [hy300]; exact H) | exact H
            have Ny300 := Aside0.mk hy300
            clear hy300
            have H' := Aside0.mk H
            clear H
            have p292 : 0 ≤ (x4_1 : Int) := of_decide_eq_true (by first | (with_reducible assumption) | assumption)
            have q292 : x4_1 < (l0.length : Int) := of_decide_eq_true (by first | (with_reducible assumption) | assumption)
            obtain ⟨ad292, A292_4, c292_4, A292_5, c292_5, e292, hx292_0, hx292_1, hx292_2, hx292_3, hx292_4, hx292_5, hl292_4, hi292_4, hl292_5, hi292_5⟩ := at_T30 HR0.out x4_1 p292 q292
            cases e292
            replace hx292_0 := (HB.out.cell (World.block_lt_of_cell? w _ hx292_0)).trans hx292_0
            replace hx292_1 := (HB.out.cell (World.block_lt_of_cell? w _ hx292_1)).trans hx292_1
            replace hx292_2 := (HB.out.cell (World.block_lt_of_cell? w _ hx292_2)).trans hx292_2
            replace hx292_3 := (HB.out.cell (World.block_lt_of_cell? w _ hx292_3)).trans hx292_3
            replace hx292_4 := (HB.out.cell (World.block_lt_of_cell? w _ hx292_4)).trans hx292_4
            replace hx292_5 := (HB.out.cell (World.block_lt_of_cell? w _ hx292_5)).trans hx292_5
            have HR292_4 := Aside0.mk hi292_4
            have HC292_4 := Aside0.mk hl292_4
            clear hi292_4 hl292_4
            have HR292_5 := Aside0.mk hi292_5
            have HC292_5 := Aside0.mk hl292_5
            clear hi292_5 hl292_5
            replace p292 := eq_true p292
            replace q292 := eq_true q292
            try go_wp2_with (first | ((with_reducible refine gate_dst (N := 5) rfl ?_); refine box_event ?hg (N := 5) ?hd (cs := #[.int .u8 0, .int .u8 0, .int .i64 0, .string (⟨#[]⟩ : ByteArray), .slice none 0 0, .slice none 0 0]) (t := 30) ?hr ?_; (case hd => rfl); (case hg => rfl); (case hr => first | (go_simp; done) | (go_simp; rfl)); intro gb293 hg w7 hbox hb; have n0_ := Aside0.mk (Kd.S_below (Kd.S_elderB (by (with_reducible repeat (first | apply Kd.S_alloc | apply Kd.S_drewN | apply Kd.S_drew)); exact HO_3.out) gb293 (Nat.le_of_eq hg.symm)) hb); have n1_ := Aside0.mk (below_step (by repeat (first | (with_reducible first | exact HB.out | apply below_alloc | apply pw_below_drewN | apply below_drew1) | exact HB.out)) hb); have n2_ := Aside0.mk (hbox); have n3_ := Aside0.mk ((by rw [hg]; exact (below_size (by repeat (first | (with_reducible first | exact HB.out | apply below_alloc | apply pw_below_drewN | apply below_drew1) | exact HB.out))) : w.heap.size ≤ gb293)); have n4_ := Aside0.mk ((by rw [hg]; exact (below_size (by repeat (first | (with_reducible first | exact HB.out | apply below_alloc | apply pw_below_drewN | apply below_drew1) | exact HB.out))) : w.heap.size ≤ gb293)); clear HO_3; clear HB; have HO_3 := n0_; have HB := n1_; have BK293 := n2_; have GW293 := n3_; have GE293 := n4_; clear n0_ n1_ n2_ n3_ n4_; clear hb hbox hg; have hcz8_0 : w7.cell? ⟨gb293, 0, none⟩ = some (.int .u8 0) := (blk_cell BK293.out 0).trans rfl; have hcz8_1 : w7.cell? ⟨gb293, 1, none⟩ = some (.int .u8 0) := (blk_cell BK293.out 1).trans rfl; have hcz8_2 : w7.cell? ⟨gb293, 2, none⟩ = some (.int .i64 0) := (blk_cell BK293.out 2).trans rfl; have hcz8_3 : w7.cell? ⟨gb293, 3, none⟩ = some (.string (⟨#[]⟩ : ByteArray)) := (blk_cell BK293.out 3).trans rfl; have hcz8_4 : w7.cell? ⟨gb293, 4, none⟩ = some (.slice none 0 0) := (blk_cell BK293.out 4).trans rfl; have hcz8_5 : w7.cell? ⟨gb293, 5, none⟩ = some (.slice none 0 0) := (blk_cell BK293.out 5).trans rfl; have hfz8_0 := blk_frozen BK293.out 0; have hfz8_1 := blk_frozen BK293.out 1; have hfz8_2 := blk_frozen BK293.out 2; have hfz8_3 := blk_frozen BK293.out 3; have hfz8_4 := blk_frozen BK293.out 4; have hfz8_5 := blk_frozen BK293.out 5))
            have n0_ : Aside0 (Kd.S k30 30 ((((((w7.setCell ⟨gb293, 0, none⟩ (.int .u8 ((rd_T30 l0 x4_1).f0))).setCell ⟨gb293, 1, none⟩ (.int .u8 ((rd_T30 l0 x4_1).f1))).setCell ⟨gb293, 2, none⟩ (.int .i64 ((rd_T30 l0 x4_1).f2))).setCell ⟨gb293, 3, none⟩ (.string ((rd_T30 l0 x4_1).f3))).setCell ⟨gb293, 4, none⟩ (.slice A292_4 ((rd_T30 l0 x4_1).f4).length c292_4)).setCell ⟨gb293, 5, none⟩ (.slice A292_5 ((rd_T30 l0 x4_1).f5).length c292_5)) w.heap.size (fun k_ => k_ ≠ gb293) u3 x3_1) := ⟨by (with_reducible repeat (first | apply Kd.S_alloc | apply Kd.S_drewN | apply Kd.S_drew)); exact Kd.S_mono (Kd.S_far (p := ⟨gb293, 5, none⟩) (Kd.S_far (p := ⟨gb293, 4, none⟩) (Kd.S_far (p := ⟨gb293, 3, none⟩) (Kd.S_far (p := ⟨gb293, 2, none⟩) (Kd.S_far (p := ⟨gb293, 1, none⟩) (Kd.S_far (p := ⟨gb293, 0, none⟩) (Kd.S_mono HO_3.out (fun k_ hk => (⟨hk, hk.2⟩ : _ ∧ k_ ≠ gb293))) (fun _ hk => hk.2) (.int .u8 ((rd_T30 l0 x4_1).f0))) (fun _ hk => hk.2) (.int .u8 ((rd_T30 l0 x4_1).f1))) (fun _ hk => hk.2) (.int .i64 ((rd_T30 l0 x4_1).f2))) (fun _ hk => hk.2) (.string ((rd_T30 l0 x4_1).f3))) (fun _ hk => hk.2) (.slice A292_4 ((rd_T30 l0 x4_1).f4).length c292_4)) (fun _ hk => hk.2) (.slice A292_5 ((rd_T30 l0 x4_1).f5).length c292_5)) (fun _ hk => hk.1.2)⟩
            have n1_ : Aside0 (((((((w7.setCell ⟨gb293, 0, none⟩ (.int .u8 ((rd_T30 l0 x4_1).f0))).setCell ⟨gb293, 1, none⟩ (.int .u8 ((rd_T30 l0 x4_1).f1))).setCell ⟨gb293, 2, none⟩ (.int .i64 ((rd_T30 l0 x4_1).f2))).setCell ⟨gb293, 3, none⟩ (.string ((rd_T30 l0 x4_1).f3))).setCell ⟨gb293, 4, none⟩ (.slice A292_4 ((rd_T30 l0 x4_1).f4).length c292_4)).setCell ⟨gb293, 5, none⟩ (.slice A292_5 ((rd_T30 l0 x4_1).f5).length c292_5)).heap[gb293]? = some (.cells #[.int .u8 ((rd_T30 l0 x4_1).f0), .int .u8 ((rd_T30 l0 x4_1).f1), .int .i64 ((rd_T30 l0 x4_1).f2), .string ((rd_T30 l0 x4_1).f3), .slice A292_4 ((rd_T30 l0 x4_1).f4).length c292_4, .slice A292_5 ((rd_T30 l0 x4_1).f5).length c292_5] 30 (0, 0))) := ⟨by (with_reducible repeat (first | refine blk_drewN ?_ _ | refine blk_drew ?_ | refine blk_alloc ?_ _)); refine blk_put (cs := #[.int .u8 ((rd_T30 l0 x4_1).f0), .int .u8 ((rd_T30 l0 x4_1).f1), .int .i64 ((rd_T30 l0 x4_1).f2), .string ((rd_T30 l0 x4_1).f3), .slice A292_4 ((rd_T30 l0 x4_1).f4).length c292_4, .slice none 0 0]) ?_ 5 _ rfl; (with_reducible repeat (first | refine blk_drewN ?_ _ | refine blk_drew ?_ | refine blk_alloc ?_ _)); refine blk_put (cs := #[.int .u8 ((rd_T30 l0 x4_1).f0), .int .u8 ((rd_T30 l0 x4_1).f1), .int .i64 ((rd_T30 l0 x4_1).f2), .string ((rd_T30 l0 x4_1).f3), .slice none 0 0, .slice none 0 0]) ?_ 4 _ rfl; (with_reducible repeat (first | refine blk_drewN ?_ _ | refine blk_drew ?_ | refine blk_alloc ?_ _)); refine blk_put (cs := #[.int .u8 ((rd_T30 l0 x4_1).f0), .int .u8 ((rd_T30 l0 x4_1).f1), .int .i64 ((rd_T30 l0 x4_1).f2), .string (⟨#[]⟩ : ByteArray), .slice none 0 0, .slice none 0 0]) ?_ 3 _ rfl; (with_reducible repeat (first | refine blk_drewN ?_ _ | refine blk_drew ?_ | refine blk_alloc ?_ _)); refine blk_put (cs := #[.int .u8 ((rd_T30 l0 x4_1).f0), .int .u8 ((rd_T30 l0 x4_1).f1), .int .i64 0, .string (⟨#[]⟩ : ByteArray), .slice none 0 0, .slice none 0 0]) ?_ 2 _ rfl; (with_reducible repeat (first | refine blk_drewN ?_ _ | refine blk_drew ?_ | refine blk_alloc ?_ _)); refine blk_put (cs := #[.int .u8 ((rd_T30 l0 x4_1).f0), .int .u8 0, .int .i64 0, .string (⟨#[]⟩ : ByteArray), .slice none 0 0, .slice none 0 0]) ?_ 1 _ rfl; (with_reducible repeat (first | refine blk_drewN ?_ _ | refine blk_drew ?_ | refine blk_alloc ?_ _)); refine blk_put (cs := #[.int .u8 0, .int .u8 0, .int .i64 0, .string (⟨#[]⟩ : ByteArray), .slice none 0 0, .slice none 0 0]) ?_ 0 _ rfl; (with_reducible repeat (first | refine blk_drewN ?_ _ | refine blk_drew ?_ | refine blk_alloc ?_ _)); exact BK293.out⟩
            have n2_ : Aside0 (Below w.heap.size w ((((((w7.setCell ⟨gb293, 0, none⟩ (.int .u8 ((rd_T30 l0 x4_1).f0))).setCell ⟨gb293, 1, none⟩ (.int .u8 ((rd_T30 l0 x4_1).f1))).setCell ⟨gb293, 2, none⟩ (.int .i64 ((rd_T30 l0 x4_1).f2))).setCell ⟨gb293, 3, none⟩ (.string ((rd_T30 l0 x4_1).f3))).setCell ⟨gb293, 4, none⟩ (.slice A292_4 ((rd_T30 l0 x4_1).f4).length c292_4)).setCell ⟨gb293, 5, none⟩ (.slice A292_5 ((rd_T30 l0 x4_1).f5).length c292_5))) := ⟨by repeat (first | (with_reducible first | exact HB.out | apply below_alloc | apply pw_below_drewN | apply below_drew1 | refine below_set ?_ GE293.out) | exact HB.out)⟩
            (try clear HO_3)
            (try clear BK293)
            (try clear HB)
            generalize ((((((w7.setCell ⟨gb293, 0, none⟩ (.int .u8 ((rd_T30 l0 x4_1).f0))).setCell ⟨gb293, 1, none⟩ (.int .u8 ((rd_T30 l0 x4_1).f1))).setCell ⟨gb293, 2, none⟩ (.int .i64 ((rd_T30 l0 x4_1).f2))).setCell ⟨gb293, 3, none⟩ (.string ((rd_T30 l0 x4_1).f3))).setCell ⟨gb293, 4, none⟩ (.slice A292_4 ((rd_T30 l0 x4_1).f4).length c292_4)).setCell ⟨gb293, 5, none⟩ (.slice A292_5 ((rd_T30 l0 x4_1).f5).length c292_5)) = w9 at n0_ n1_ n2_ ⊢
            have HO_3 := n0_
            have BK293 := n1_
            have HB := n2_
            clear n0_ n1_ n2_
            have n0_ := Aside0.mk (Kd.S_drew HO_3.out)
            have n1_ := Aside0.mk (blk_drew BK293.out)
            have n2_ := Aside0.mk (below_drew1 HB.out)
            clear HO_3
            clear BK293
            clear HB
            have HO_3 := n0_
            have BK293 := n1_
            have HB := n2_
            clear n0_ n1_ n2_
            refine start_ (n := 10) (S := fun w' => w'.cell? ⟨gb293, 0, none⟩ = some (.int .u8 ((rd_T30 l0 x4_1).f0)) ∧ w'.cell? ⟨gb293, 1, none⟩ = some (.int .u8 ((rd_T30 l0 x4_1).f1)) ∧ w'.cell? ⟨gb293, 2, none⟩ = some (.int .i64 ((rd_T30 l0 x4_1).f2)) ∧ w'.cell? ⟨gb293, 3, none⟩ = some (.string ((rd_T30 l0 x4_1).f3)) ∧ w'.cell? ⟨gb293, 4, none⟩ = some (.slice A292_4 ((rd_T30 l0 x4_1).f4).length c292_4) ∧ w'.cell? ⟨gb293, 5, none⟩ = some (.slice A292_5 ((rd_T30 l0 x4_1).f5).length c292_5)) (ds := [7, 9]) #[false, false, false, false, false, false, false, false, false, false] (by kernel_rfl) rfl rfl ⟨(blk_cell BK293.out 0).trans rfl, (blk_cell BK293.out 1).trans rfl, (blk_cell BK293.out 2).trans rfl, (blk_cell BK293.out 3).trans rfl, (blk_cell BK293.out 4).trans rfl, (blk_cell BK293.out 5).trans rfl⟩ (fun hHeld => ?_); refine with_tabW musterlow_CopyFields.tab6 musterlow_CopyFields.bits6 (fun HT_ HW_ => ?_)
            generalize w9.drew = w10 at HO_3 BK293 HB hHeld ⊢
            refine pure_ (i := 0) (N := some 16) (v := ?_) (a' := ?_) #[true, false, false, false, false, false, false, false, false, false] rfl rfl (any_of HT_.out (by kernel_rfl)) (fun _ _ _ h => h) (Or.inl ⟨by rfl, ?_⟩) ?_ ?_
            rotate_left
            · intro w'
              go_simp
              with_reducible rfl
            rotate_left
            · simp only [Act.put, List.setIfInBounds_toArray, List.set_cons_zero, List.set_cons_succ, i64_w, i32_w]
              rfl
            refine pure_ (i := 3) (N := some 19) (v := ?_) (a' := ?_) #[true, false, false, true, false, false, false, false, false, false] rfl rfl (any_of HT_.out (by kernel_rfl)) (fun _ _ _ h => h) (Or.inl ⟨by rfl, ?_⟩) ?_ ?_
            rotate_left
            · intro w'
              go_simp
              with_reducible rfl
            rotate_left
            · simp only [Act.put, List.setIfInBounds_toArray, List.set_cons_zero, List.set_cons_succ, i64_w, i32_w]
              rfl
            refine take_ (i := 1) (N := some 17) (v := ?_) (a' := ?_) #[true, true, false, true, false, false, false, false, false, false] rfl rfl (take_ofW HT_.out HW_.out (by kernel_rfl)) (fun _ _ _ h => h) (Or.inl ⟨by rfl, ?_⟩) hHeld ?_ ?_
            rotate_left
            · rintro w' ⟨s0, s1, s2, s3, s4, s5⟩
              go_simp
              with_reducible rfl
            rotate_left
            · simp only [Act.put, List.setIfInBounds_toArray, List.set_cons_zero, List.set_cons_succ, i64_w, i32_w]
              rfl
            refine take_ (i := 4) (N := some 20) (v := ?_) (a' := ?_) #[true, true, false, true, true, false, false, false, false, false] rfl rfl (take_ofW HT_.out HW_.out (by kernel_rfl)) (fun _ _ _ h => h) (Or.inl ⟨by rfl, ?_⟩) hHeld ?_ ?_
            rotate_left
            · rintro w' ⟨s0, s1, s2, s3, s4, s5⟩
              go_simp
              with_reducible rfl
            rotate_left
            · simp only [Act.put, List.setIfInBounds_toArray, List.set_cons_zero, List.set_cons_succ, i64_w, i32_w]
              rfl
            refine one_ (i := 2) (N := some 18) #[true, true, true, true, true, false, false, false, false, false] rfl rfl (one_of HT_.out (by kernel_rfl)) (by decide) (fun K hK => ?_)
            refine goes_ Try.func34 (by kernel_rfl) rfl #[.slice A292_4 ((rd_T30 l0 x4_1).f4).length c292_4] (by rfl) rfl rfl (by (try simp only [List.map_toArray, List.map_cons, List.map_nil]); first | done | rfl | (simp only [List.length_drop, List.length_take]; rfl)) ?_
            with_reducible refine (musterlow_CopyNumbers.calls _ _ ((rd_T30 l0 x4_1).f4) t294 _ ?side1 ?side2 A4.out).mono ?_
            (case side1 => repeat (first | exact (Kd.C_below HR292_4.out HB.out) | (with_reducible refine Kd.C_alloc ?_ _) | (with_reducible refine Kd.C_drewN ?_ _) | (with_reducible refine Kd.C_drew ?_)))
            (case side2 => exact HC292_4.out)
            rintro e w11 ⟨v295, rfl, ho0, hb⟩
            refine ⟨_, rfl, ?_⟩
            have n0_ := Aside0.mk (Kd.S_elder' (by (with_reducible repeat (first | apply Kd.S_alloc | apply Kd.S_drewN | apply Kd.S_drew)); exact HO_3.out) (Kd.R_base ho0) hb)
            have n1_ := Aside0.mk (Kd.R_lower ho0 (below_size (by repeat (first | (with_reducible first | exact HB.out | apply below_alloc | apply pw_below_drewN | apply below_drew1 | refine below_set ?_ GE293.out) | exact HB.out))))
            have n2_ := Aside0.mk (blk_below (g := gb293) (o := .cells #[.int .u8 ((rd_T30 l0 x4_1).f0), .int .u8 ((rd_T30 l0 x4_1).f1), .int .i64 ((rd_T30 l0 x4_1).f2), .string ((rd_T30 l0 x4_1).f3), .slice A292_4 ((rd_T30 l0 x4_1).f4).length c292_4, .slice A292_5 ((rd_T30 l0 x4_1).f5).length c292_5] 30 (0, 0)) (by (with_reducible repeat (first | refine blk_drewN ?_ _ | refine blk_drew ?_ | refine blk_alloc ?_ _)); exact BK293.out) hb)
            have n3_ := Aside0.mk (below_step (by repeat (first | (with_reducible first | exact HB.out | apply below_alloc | apply pw_below_drewN | apply below_drew1 | refine below_set ?_ GE293.out) | exact HB.out)) hb)
            clear HO_3
            clear BK293
            clear HB
            have HO_3 := n0_
            have HO296 := n1_
            have BK293 := n2_
            have HB := n3_
            clear n0_ n1_ n2_ n3_
            (try clear hb)
            (try clear hb2)
            (try clear hk)
            (try clear hi)
            (try clear ho0)
            refine hK.out _ _ ⟨(blk_cell BK293.out 0).trans rfl, (blk_cell BK293.out 1).trans rfl, (blk_cell BK293.out 2).trans rfl, (blk_cell BK293.out 3).trans rfl, (blk_cell BK293.out 4).trans rfl, (blk_cell BK293.out 5).trans rfl⟩ (fun hHeld => ?_)
            clear hK K
            refine norm_ (a' := ?_) ?_ ?_
            rotate_left
            · show Act.put _ (some 18) _ = _
              simp only [Act.put, List.setIfInBounds_toArray, List.set_cons_zero, List.set_cons_succ, i64_w, i32_w]
              rfl
            refine pure_ (i := 6) (N := some 22) (v := ?_) (a' := ?_) #[true, true, true, true, true, false, true, false, false, false] rfl rfl (any_of HT_.out (by kernel_rfl)) (fun _ _ _ h => h) (Or.inl ⟨by rfl, ?_⟩) ?_ ?_
            rotate_left
            · intro w'
              go_simp
              with_reducible rfl
            rotate_left
            · simp only [Act.put, List.setIfInBounds_toArray, List.set_cons_zero, List.set_cons_succ, i64_w, i32_w]
              rfl
            refine one_ (i := 5) (N := some 21) #[true, true, true, true, true, true, true, false, false, false] rfl rfl (one_of HT_.out (by kernel_rfl)) (by decide) (fun K hK => ?_)
            refine goes_ Try.func35 (by kernel_rfl) rfl #[.slice A292_5 ((rd_T30 l0 x4_1).f5).length c292_5] (by rfl) rfl rfl (by (try simp only [List.map_toArray, List.map_cons, List.map_nil]); first | done | rfl | (simp only [List.length_drop, List.length_take]; rfl)) ?_
            with_reducible refine (musterlow_CopyTexts.calls _ _ ((rd_T30 l0 x4_1).f5) t297 _ ?side1 ?side2 A5.out).mono ?_
            (case side1 => repeat (first | exact (Kd.C_below HR292_5.out HB.out) | (with_reducible refine Kd.C_alloc ?_ _) | (with_reducible refine Kd.C_drewN ?_ _) | (with_reducible refine Kd.C_drew ?_)))
            (case side2 => exact HC292_5.out)
            rintro e w12 ⟨v298, rfl, ho0, hb⟩
            refine ⟨_, rfl, ?_⟩
            have n0_ := Aside0.mk (Kd.S_elder' (by (with_reducible repeat (first | apply Kd.S_alloc | apply Kd.S_drewN | apply Kd.S_drew)); exact HO_3.out) (Kd.R_base ho0) hb)
            have n1_ := Aside0.mk (Kd.R_below (by (with_reducible repeat (first | apply Kd.R_alloc | apply Kd.R_drewN | apply Kd.R_drew)); exact HO296.out) hb)
            have n2_ := Aside0.mk (Kd.R_lower ho0 (below_size (by repeat (first | (with_reducible first | exact HB.out | apply below_alloc | apply pw_below_drewN | apply below_drew1 | refine below_set ?_ GE293.out) | exact HB.out))))
            have n3_ := Aside0.mk (blk_below (g := gb293) (o := .cells #[.int .u8 ((rd_T30 l0 x4_1).f0), .int .u8 ((rd_T30 l0 x4_1).f1), .int .i64 ((rd_T30 l0 x4_1).f2), .string ((rd_T30 l0 x4_1).f3), .slice A292_4 ((rd_T30 l0 x4_1).f4).length c292_4, .slice A292_5 ((rd_T30 l0 x4_1).f5).length c292_5] 30 (0, 0)) (by (with_reducible repeat (first | refine blk_drewN ?_ _ | refine blk_drew ?_ | refine blk_alloc ?_ _)); exact BK293.out) hb)
            have n4_ := Aside0.mk (below_step (by repeat (first | (with_reducible first | exact HB.out | apply below_alloc | apply pw_below_drewN | apply below_drew1 | refine below_set ?_ GE293.out) | exact HB.out)) hb)
            clear HO_3
            clear HO296
            clear BK293
            clear HB
            have HO_3 := n0_
            have HO296 := n1_
            have HO299 := n2_
            have BK293 := n3_
            have HB := n4_
            clear n0_ n1_ n2_ n3_ n4_
            (try clear hb)
            (try clear hb2)
            (try clear hk)
            (try clear hi)
            (try clear ho0)
            obtain ⟨Ao13, co13, eo13⟩ := Kd.R_slice HO296.out
            (first | subst eo13 | (injection eo13 with f1_ f2_ f3_; have f4_ := f1_.symm; have f5_ := f3_.symm; clear f1_ f2_ f3_; subst f4_; subst f5_))
            obtain ⟨Ao15, co15, eo15⟩ := Kd.R_slice HO299.out
            (first | subst eo15 | (injection eo15 with f1_ f2_ f3_; have f4_ := f1_.symm; have f5_ := f3_.symm; clear f1_ f2_ f3_; subst f4_; subst f5_))
            refine hK.out _ _ ⟨(blk_cell BK293.out 0).trans rfl, (blk_cell BK293.out 1).trans rfl, (blk_cell BK293.out 2).trans rfl, (blk_cell BK293.out 3).trans rfl, (blk_cell BK293.out 4).trans rfl, (blk_cell BK293.out 5).trans rfl⟩ (fun hHeld => ?_)
            clear hK K
            refine norm_ (a' := ?_) ?_ ?_
            rotate_left
            · show Act.put _ (some 21) _ = _
              simp only [Act.put, List.setIfInBounds_toArray, List.set_cons_zero, List.set_cons_succ, i64_w, i32_w]
              rfl
            refine last_ (i := 7) (N := none) #[true, true, true, true, true, true, true, true, false, false] rfl rfl (one_of HT_.out (by kernel_rfl)) (by decide) (fun K hK => ?_)
            have hs14 : w12.cell? ⟨gb293, 4, none⟩ = some (.slice A292_4 ((rd_T30 l0 x4_1).f4).length c292_4) := (blk_cell BK293.out 4).trans rfl
            have hfs14 := blk_frozen BK293.out 4
            refine skip_ (w1 := ?_) (by rfl) rfl ?_ ?_
            rotate_left
            · go_simp
              rfl
            refine hK.out _ _ ?_
            clear hK K
            refine pure_ (i := 8) (N := some 23) (v := ?_) (a' := ?_) #[true, true, true, true, true, true, true, true, true, false] rfl rfl (any_of HT_.out (by kernel_rfl)) (fun _ _ _ h => h) (Or.inl ⟨by rfl, ?_⟩) ?_ ?_
            rotate_left
            · intro w'
              go_simp
              with_reducible rfl
            rotate_left
            · simp only [Act.put, List.setIfInBounds_toArray, List.set_cons_zero, List.set_cons_succ, i64_w, i32_w]
              rfl
            refine last_ (i := 9) (N := none) #[true, true, true, true, true, true, true, true, true, true] rfl rfl (one_of HT_.out (by kernel_rfl)) (by decide) (fun K hK => ?_)
            have hs16 : w12.cell? ⟨gb293, 5, none⟩ = some (.slice A292_5 ((rd_T30 l0 x4_1).f5).length c292_5) := (blk_cell BK293.out 5).trans rfl
            have hfs16 := blk_frozen BK293.out 5
            refine skip_ (w1 := ?_) (by rfl) rfl ?_ ?_
            rotate_left
            · go_simp
              rfl
            refine hK.out _ _ ?_
            clear hK K
            refine done_ (done_of HT_.out (by kernel_rfl)) ?_
            have n0_ : Aside0 (Kd.S k30 30 ((w12.setCell ⟨gb293, 4, none⟩ (.slice Ao13 t294.length co13)).setCell ⟨gb293, 5, none⟩ (.slice Ao15 t297.length co15)) w.heap.size (fun k_ => some k_ ≠ (.slice Ao13 t294.length co13 : Value).ownBlock ∧ some k_ ≠ (.slice Ao15 t297.length co15 : Value).ownBlock ∧ k_ ≠ gb293) u3 x3_1) := ⟨by (with_reducible repeat (first | apply Kd.S_alloc | apply Kd.S_drewN | apply Kd.S_drew)); exact Kd.S_mono (Kd.S_far (p := ⟨gb293, 5, none⟩) (Kd.S_far (p := ⟨gb293, 4, none⟩) (Kd.S_mono HO_3.out (fun k_ hk => (⟨hk, hk.1.1⟩ : _ ∧ k_ ≠ gb293))) (fun _ hk => hk.2) (.slice Ao13 t294.length co13)) (fun _ hk => hk.2) (.slice Ao15 t297.length co15)) (fun _ hk => ⟨hk.1.1.2, ⟨hk.1.2, hk.1.1.1⟩⟩)⟩
            have n1_ : Aside0 (Kd.R (Kd.int .i64) 2 ((w12.setCell ⟨gb293, 4, none⟩ (.slice Ao13 t294.length co13)).setCell ⟨gb293, 5, none⟩ (.slice Ao15 t297.length co15)) w.heap.size (fun _ => True) (.slice Ao13 t294.length co13) t294) := ⟨by (with_reducible repeat (first | apply Kd.R_alloc | apply Kd.R_drewN | apply Kd.R_drew)); exact Kd.R_mono (Kd.R_far (p := ⟨gb293, 5, none⟩) (Kd.R_far (p := ⟨gb293, 4, none⟩) (Kd.R_types HO296.out BK293.out (by decide)) (fun _ hk => hk.2) (.slice Ao13 t294.length co13)) (fun _ hk => hk.2) (.slice Ao15 t297.length co15)) (fun _ hk => trivial)⟩
            have n2_ : Aside0 (Kd.R Kd.string 9 ((w12.setCell ⟨gb293, 4, none⟩ (.slice Ao13 t294.length co13)).setCell ⟨gb293, 5, none⟩ (.slice Ao15 t297.length co15)) w.heap.size (fun _ => True) (.slice Ao15 t297.length co15) t297) := ⟨by (with_reducible repeat (first | apply Kd.R_alloc | apply Kd.R_drewN | apply Kd.R_drew)); exact Kd.R_mono (Kd.R_far (p := ⟨gb293, 5, none⟩) (Kd.R_far (p := ⟨gb293, 4, none⟩) (Kd.R_types HO299.out BK293.out (by decide)) (fun _ hk => hk.2) (.slice Ao13 t294.length co13)) (fun _ hk => hk.2) (.slice Ao15 t297.length co15)) (fun _ hk => trivial)⟩
            have n3_ : Aside0 (((w12.setCell ⟨gb293, 4, none⟩ (.slice Ao13 t294.length co13)).setCell ⟨gb293, 5, none⟩ (.slice Ao15 t297.length co15)).heap[gb293]? = some (.cells #[.int .u8 ((rd_T30 l0 x4_1).f0), .int .u8 ((rd_T30 l0 x4_1).f1), .int .i64 ((rd_T30 l0 x4_1).f2), .string ((rd_T30 l0 x4_1).f3), .slice Ao13 t294.length co13, .slice Ao15 t297.length co15] 30 (0, 0))) := ⟨by (with_reducible repeat (first | refine blk_drewN ?_ _ | refine blk_drew ?_ | refine blk_alloc ?_ _)); refine blk_put (cs := #[.int .u8 ((rd_T30 l0 x4_1).f0), .int .u8 ((rd_T30 l0 x4_1).f1), .int .i64 ((rd_T30 l0 x4_1).f2), .string ((rd_T30 l0 x4_1).f3), .slice Ao13 t294.length co13, .slice A292_5 ((rd_T30 l0 x4_1).f5).length c292_5]) ?_ 5 _ rfl; (with_reducible repeat (first | refine blk_drewN ?_ _ | refine blk_drew ?_ | refine blk_alloc ?_ _)); refine blk_put (cs := #[.int .u8 ((rd_T30 l0 x4_1).f0), .int .u8 ((rd_T30 l0 x4_1).f1), .int .i64 ((rd_T30 l0 x4_1).f2), .string ((rd_T30 l0 x4_1).f3), .slice A292_4 ((rd_T30 l0 x4_1).f4).length c292_4, .slice A292_5 ((rd_T30 l0 x4_1).f5).length c292_5]) ?_ 4 _ rfl; (with_reducible repeat (first | refine blk_drewN ?_ _ | refine blk_drew ?_ | refine blk_alloc ?_ _)); exact BK293.out⟩
            have n4_ : Aside0 (Below w.heap.size w ((w12.setCell ⟨gb293, 4, none⟩ (.slice Ao13 t294.length co13)).setCell ⟨gb293, 5, none⟩ (.slice Ao15 t297.length co15))) := ⟨by repeat (first | (with_reducible first | exact HB.out | apply below_alloc | apply pw_below_drewN | apply below_drew1 | refine below_set ?_ GE293.out) | exact HB.out)⟩
            (try clear HO_3)
            (try clear HO296)
            (try clear HO299)
            (try clear BK293)
            (try clear HB)
            generalize ((w12.setCell ⟨gb293, 4, none⟩ (.slice Ao13 t294.length co13)).setCell ⟨gb293, 5, none⟩ (.slice Ao15 t297.length co15)) = w17 at n0_ n1_ n2_ n3_ n4_ ⊢
            have HO_3 := n0_
            have HO296 := n1_
            have HO299 := n2_
            have BK293 := n3_
            have HB := n4_
            clear n0_ n1_ n2_ n3_ n4_
            have hcz18_0 : w17.cell? ⟨gb293, 0, none⟩ = some (.int .u8 ((rd_T30 l0 x4_1).f0)) := (blk_cell BK293.out 0).trans rfl
            have hcz18_1 : w17.cell? ⟨gb293, 1, none⟩ = some (.int .u8 ((rd_T30 l0 x4_1).f1)) := (blk_cell BK293.out 1).trans rfl
            have hcz18_2 : w17.cell? ⟨gb293, 2, none⟩ = some (.int .i64 ((rd_T30 l0 x4_1).f2)) := (blk_cell BK293.out 2).trans rfl
            have hcz18_3 : w17.cell? ⟨gb293, 3, none⟩ = some (.string ((rd_T30 l0 x4_1).f3)) := (blk_cell BK293.out 3).trans rfl
            have hcz18_4 : w17.cell? ⟨gb293, 4, none⟩ = some (.slice Ao13 t294.length co13) := (blk_cell BK293.out 4).trans rfl
            have hcz18_5 : w17.cell? ⟨gb293, 5, none⟩ = some (.slice Ao15 t297.length co15) := (blk_cell BK293.out 5).trans rfl
            have hfz18_0 := blk_frozen BK293.out 0
            have hfz18_1 := blk_frozen BK293.out 1
            have hfz18_2 := blk_frozen BK293.out 2
            have hfz18_3 := blk_frozen BK293.out 3
            have hfz18_4 := blk_frozen BK293.out 4
            have hfz18_5 := blk_frozen BK293.out 5
            try go_wp2_with (first | ((with_reducible refine gate_builtin (b := .append) (xs := #[.tmp 24, .tmp 26]) rfl ?_); at_builtin; refine Kd.S_append k30 (w0 := w) w.heap.size rfl (.tmp 24) (.tmp 26) 31 30 (.agg #[(.int .u8 0), (.int .u8 0), (.int .i64 0), (.string ⟨#[]⟩), (.slice none 0 0), (.slice none 0 0)]) 80 rfl Try.underlying31 info30 rfl (by decide) (by omega) u3 x3_1 (⟨(rd_T30 l0 x4_1).f0, (rd_T30 l0 x4_1).f1, (rd_T30 l0 x4_1).f2, (rd_T30 l0 x4_1).f3, t294, t297⟩ : S30) [.int .u8 ((rd_T30 l0 x4_1).f0), .int .u8 ((rd_T30 l0 x4_1).f1), .int .i64 ((rd_T30 l0 x4_1).f2), .string ((rd_T30 l0 x4_1).f3), .slice Ao13 t294.length co13, .slice Ao15 t297.length co15] (fun k_ => k_ ≠ gb293) (fun k_ => some k_ = (.slice Ao13 t294.length co13 : Value).ownBlock ∨ some k_ = (.slice Ao15 t297.length co15 : Value).ownBlock) rfl rfl ?aP (fun k_ hk_ => hk_.elim (fun h_ => ((Kd.R_mono (ok' := fun k_ => ((fun k_ => k_ ≠ gb293)) k_ ∧ some k_ ≠ (u3 : Value).ownBlock) (Kd.R_types (Kd.R_apart' (HO296.out) (Kd.S_typed HO_3.out) (by decide)) BK293.out (by decide)) (fun k_ hk => ⟨hk.2, hk.1.2⟩))).1 k_ h_.symm) (fun h_ => ((Kd.R_mono (ok' := fun k_ => ((fun k_ => k_ ≠ gb293)) k_ ∧ some k_ ≠ (u3 : Value).ownBlock) (Kd.R_types (Kd.R_apart' (HO299.out) (Kd.S_typed HO_3.out) (by decide)) BK293.out (by decide)) (fun k_ hk => ⟨hk.2, hk.1.2⟩))).1 k_ h_.symm)) ?aF ?aO ?aB ?aS ?aL ?_; (case aP => exact k30_mkM _ _ _ (⟨(rd_T30 l0 x4_1).f0, (rd_T30 l0 x4_1).f1, (rd_T30 l0 x4_1).f2, (rd_T30 l0 x4_1).f3, t294, t297⟩ : S30) (Kd.R_mono (Kd.R_tight rfl (Kd.R_mono (ok' := fun k_ => ((fun k_ => k_ ≠ gb293)) k_ ∧ some k_ ≠ (u3 : Value).ownBlock) (Kd.R_types (Kd.R_apart' (HO296.out) (Kd.S_typed HO_3.out) (by decide)) BK293.out (by decide)) (fun k_ hk => ⟨hk.2, hk.1.2⟩))) (fun _ h_ => Or.inl h_)) (Kd.R_mono (Kd.R_tight rfl (Kd.R_mono (ok' := fun k_ => ((fun k_ => k_ ≠ gb293)) k_ ∧ some k_ ≠ (u3 : Value).ownBlock) (Kd.R_types (Kd.R_apart' (HO299.out) (Kd.S_typed HO_3.out) (by decide)) BK293.out (by decide)) (fun k_ hk => ⟨hk.2, hk.1.2⟩))) (fun _ h_ => Or.inr (h_)))); (case aB => exact (by repeat (first | (with_reducible first | exact HB.out | apply below_alloc | apply pw_below_drewN | apply below_drew1 | refine below_set ?_ GE293.out) | exact HB.out))); (case aF => exact (fun k_ hk => Kd.freshB (g := gb293) (o := .cells #[.int .u8 ((rd_T30 l0 x4_1).f0), .int .u8 ((rd_T30 l0 x4_1).f1), .int .i64 ((rd_T30 l0 x4_1).f2), .string ((rd_T30 l0 x4_1).f3), .slice Ao13 t294.length co13, .slice Ao15 t297.length co15] 30 (0, 0)) (by (with_reducible repeat (first | refine blk_drewN ?_ _ | refine blk_drew ?_ | refine blk_alloc ?_ _)); exact BK293.out) k_ hk)); (case aO => exact (by (with_reducible repeat (first | apply Kd.S_alloc | apply Kd.S_drewN | apply Kd.S_drew)); exact Kd.S_mono HO_3.out (fun k_ hk => ⟨hk.2.2, fun e_ => e_.elim (fun h_ => hk.1 h_) (fun h_ => hk.2.1 h_)⟩))); (case aS => exact (below_size (by repeat (first | (with_reducible first | exact HB.out | apply below_alloc | apply pw_below_drewN | apply below_drew1 | refine below_set ?_ GE293.out) | exact HB.out)))); (case aL => have := LMc6.out; omega); intro v301 w19 ho hb hg hat; rw [← Ny300.out] at ho; have n0_ := Aside0.mk (blk_grown (g := gb293) (o := .cells #[.int .u8 ((rd_T30 l0 x4_1).f0), .int .u8 ((rd_T30 l0 x4_1).f1), .int .i64 ((rd_T30 l0 x4_1).f2), .string ((rd_T30 l0 x4_1).f3), .slice Ao13 t294.length co13, .slice Ao15 t297.length co15] 30 (0, 0)) (by (with_reducible repeat (first | refine blk_drewN ?_ _ | refine blk_drew ?_ | refine blk_alloc ?_ _)); exact BK293.out) hg (Kd.S_away HO_3.out (fun _ hk => hk.2.2))); have n1_ := Aside0.mk (hb); have n2_ := Aside0.mk (ho); clear BK293; clear HB; clear HO_3; clear HO296; clear HO299; have BK293 := n0_; have HB := n1_; have HO302 := n2_; clear n0_ n1_ n2_; clear ho hb hg hat))
            go_roundg k1
            case measure => have := HK1.out; omega
            case rel => exact ⟨(y300), (wrap64 (x4_1 + 1)), (by first | rfl | (simp; done) | (simp [*]; done)), H', ⟨by have := HK1.out; omega⟩, ⟨by (with_reducible repeat (first | apply Kd.S_alloc | apply Kd.S_drewN | apply Kd.S_drew)); exact Kd.S_mono HO302.out (fun _ hk => trivial)⟩, ⟨by repeat (first | (with_reducible first | exact HB.out | apply below_alloc | apply pw_below_drewN | apply below_drew1 | refine below_set ?_ GE293.out) | exact HB.out)⟩⟩
          · rw [if_neg c6] at H
            exact absurd H (by simp)
        · rw [if_neg c3] at H
          exact absurd H (by simp)
      · rw [if_neg c2] at H
        have c2b0 : decide (x4_1 < (l0.length : Int)) = false := decide_eq_false c2
        clear c2
        obtain rfl := Option.some.inj H
        go_wp2
        go_ret
        exact ⟨_, by first | rfl | (simp [errW_none, errW_some] <;> rfl) | (simp [*, errW_none, errW_some] <;> rfl), by (with_reducible repeat (first | apply Kd.S_alloc | apply Kd.S_drewN | apply Kd.S_drew)); exact HO_3.out, by repeat (first | (with_reducible first | exact HB.out | apply below_alloc | apply pw_below_drewN | apply below_drew1) | exact HB.out)⟩

end Go.Proofs.Ytnhkbjihgepapaa.PF

namespace Go.Proofs.Ytnhkbjihgepapaa.Fd
set_option linter.unusedVariables false
set_option linter.unusedSimpArgs false
open Go.RowKit Go.Proofs.YtnhkbjihgepapaaW.PrintWords Go.Proofs.YtnhkbjihgepapaaW.PrintLast Go.Proofs.YtnhkbjihgepapaaW.PrintMore Go.Proofs.Ytnhkbjihgepapaa.PF Go.Proofs.Ytnhkbjihgepapaa.Oct Go.Proofs.Ytnhkbjihgepapaa.EvK
theorem rfright_f (x : Fl) (h : Mem9 x) : musterref04_right.f x.f0 x.f1 x.f2 x.f3 x.f4 x.f5 = some (rightX x) := by
  unfold Mem9 at h
  unfold musterref04_right.f rightX
  rw [if_pos h]
theorem rRight_l0 (l : List Fl) (hl : l.length ≤ 64) (hm : ∀ x ∈ l, Mem9 x) : ∀ d j, l.length - j = d → j ≤ l.length → okL l j = true → Ev (fun k => musterref04_Right.l0 k l (j : Int)) (rightL l)
  | 0, j, hd, hj, ha => by
    obtain rfl : j = l.length := by omega
    refine Ev.stp (fun k => by rw [musterref04_Right.l0]) (Ev.neg (by omega) (Ev.one ?_))
    unfold rightL
    rw [ha, Bool.true_and, decide_eq_true (by omega)]
  | d + 1, j, hd, hj, ha => by
    have hlt : j < l.length := by omega
    have hst := stepL_at l j hlt
    have bad : stepL l j = false → false = rightL l := fun h => by
      unfold rightL
      rw [okL_bad l (j + 1) (by rw [okL, ha, h]; rfl) l.length (by omega)]
      rfl
    have good : stepL l j = true → Ev (fun k => musterref04_Right.l0 k l (wrap64 ((j : Int) + 1))) (rightL l) := fun h => by
      rw [wr1 (by omega)]
      exact rRight_l0 l hl hm d (j + 1) (by omega) (by omega) (by rw [okL, ha, h]; rfl)
    refine Ev.stp (fun k => by rw [musterref04_Right.l0]) (Ev.pos (by omega) (Ev.pos (by omega) ?_))
    rw [rdF l j hlt]
    refine Ev.bnd (a := rightX l[j]) (Ev.const (rfright_f _ (hm _ (List.getElem_mem hlt)))) ?_
    cases hx : rightX l[j] with
    | false => exact Ev.neg (by decide) (Ev.one (bad (by rw [hst, hx]; rfl)))
    | true =>
      refine Ev.pos rfl ?_
      cases j with
      | zero => exact Ev.neg (by decide) (good (by rw [hst, hx]; rfl))
      | succ i =>
        rw [hx, Bool.true_and, dif_neg (Nat.succ_ne_zero i)] at hst
        simp only [Nat.add_sub_cancel] at hst
        have e1 : wrap64 (((i + 1 : Nat) : Int) - 1) = (i : Int) := by unfold wrap64; omega
        rw [e1]
        refine Ev.pos (by omega) (Ev.pos (by omega) (Ev.pos (by omega) ?_))
        rw [rdF l i (by omega)]
        by_cases h : l[i + 1].f0 ≤ (l[i]'(by omega)).f0
        · exact Ev.pos h (Ev.one (bad (by rw [hst]; exact decide_eq_false (by omega))))
        · exact Ev.neg h (good (by rw [hst]; exact decide_eq_true (by omega)))
theorem rRight_ev (l : List Fl) (hm : ∀ x ∈ l, Mem9 x) : Ev (fun k => musterref04_Right.f k l) (rightL l) := by
  unfold musterref04_Right.f
  by_cases h : (l.length : Int) > 64
  · refine Ev.pos h (Ev.one ?_)
    unfold rightL
    rw [decide_eq_false (by omega), Bool.and_false]
  · exact Ev.neg h (rRight_l0 l (by omega) hm _ 0 rfl (Nat.zero_le _) rfl)
/-! ### Put -/
theorem refAdd_f (b : List Int) (n : Int) (m : Nat) (h0 : 0 ≤ n) (h1 : n < 18446744073709551616) (hm0 : 1 ≤ m) (hm : m ≤ 8) (hb : b.length ≤ 1099511627776) : musterref01_Add.f b n (m : Int) = some (b ++ be n m) := by
  unfold musterref01_Add.f
  rw [if_pos (okAdd1_mk h0 h1 (by omega) (by omega) (by omega)), Int.toNat_natCast]
theorem refAdd8_f (b : List Int) (n : Int) (hb : b.length ≤ 1099511627776) : musterref01_Add.f b (IntKind.u64.wrap n) 8 = some (b ++ encN n) := by
  have h := u64_range n
  unfold u64 at h
  exact refAdd_f b _ 8 h.1 h.2 (by omega) (by omega) hb
theorem u64_small (n : Nat) (h : n ≤ 65535) : IntKind.u64.wrap (n : Int) = n := by rw [IntKind.wrap_u64]; omega
theorem refAddText_f (b : List Int) (t : ByteArray) (hb : b.length ≤ 1099511627776) (ht : t.size ≤ 65535) : musterref01_AddText.f b t = some (b ++ encT t, 0) := by
  unfold musterref01_AddText.f addTextE okText addText encT
  rw [if_pos (decide_eq_true (by omega)), if_pos ht, List.append_assoc]
/-- What the document's Put goes on with behind a field. -/
def goOn (l : List Fl) (b : List Int) (j : Nat) : Nat → Option (List Int × Int) := fun k => if (b.length : Int) > 65000 then some ([], 3) else musterref04_Put.l0 k l b (wrap64 ((j : Int) + 1))
theorem rPut_l1 (l : List Fl) (x : Fl) (p : Nat) (r : List Int × Int) (hl : x.f4.length ≤ 256) : ∀ d j (b : List Int), x.f4.length - j = d → j ≤ x.f4.length → b.length + 8 * (x.f4.length - j) ≤ 1099511627776 → Ev (goOn l (b ++ (x.f4.drop j).flatMap encN) p) r → Ev (fun k => musterref04_Put.l1 k l b (p : Int) (j : Int) x.f0 x.f1 x.f2 x.f3 x.f4 x.f5) r
  | 0, j, b, hd, hj, hn, hr => by
    rw [List.drop_of_length_le (by omega), List.flatMap_nil, List.append_nil] at hr
    unfold goOn at hr
    refine Ev.stp (fun k => by rw [musterref04_Put.l1]) (Ev.neg (by omega) ?_)
    exact hr
  | d + 1, j, b, hd, hj, hn, hr => by
    have hlt : j < x.f4.length := by omega
    refine Ev.stp (fun k => by rw [musterref04_Put.l1]) (Ev.pos (by omega) (Ev.pos (by omega) ?_))
    rw [rdI x.f4 j hlt, refAdd8_f b _ (by omega), wr1 (by omega)]
    rw [List.drop_eq_getElem_cons hlt, List.flatMap_cons, ← List.append_assoc] at hr
    exact Ev.sbnd (rPut_l1 l x p r hl d (j + 1) (b ++ encN x.f4[j]) (by omega) (by omega) (by rw [List.length_append, encN_len]; omega) hr)
theorem rPut_l2 (l : List Fl) (x : Fl) (p : Nat) (r : List Int × Int) (h : ∀ t ∈ x.f5, t.size ≤ 65535) (hl : x.f5.length ≤ 256) : ∀ d j (b : List Int), x.f5.length - j = d → j ≤ x.f5.length → b.length + 65537 * (x.f5.length - j) ≤ 1099511627776 → Ev (goOn l (b ++ (x.f5.drop j).flatMap encT) p) r → Ev (fun k => musterref04_Put.l2 k l b (p : Int) (j : Int) x.f0 x.f1 x.f2 x.f3 x.f4 x.f5) r
  | 0, j, b, hd, hj, hn, hr => by
    rw [List.drop_of_length_le (by omega), List.flatMap_nil, List.append_nil] at hr
    unfold goOn at hr
    refine Ev.stp (fun k => by rw [musterref04_Put.l2]) (Ev.neg (by omega) ?_)
    exact hr
  | d + 1, j, b, hd, hj, hn, hr => by
    have hlt : j < x.f5.length := by omega
    have hz := h x.f5[j] (List.getElem_mem hlt)
    refine Ev.stp (fun k => by rw [musterref04_Put.l2]) (Ev.pos (by omega) (Ev.pos (by omega) ?_))
    rw [rdS x.f5 j hlt, refAddText_f b _ (by omega) hz, wr1 (by omega)]
    rw [List.drop_eq_getElem_cons hlt, List.flatMap_cons, ← List.append_assoc] at hr
    exact Ev.sbnd (rPut_l2 l x p r h hl d (j + 1) (b ++ encT x.f5[j]) (by omega) (by omega) (by rw [List.length_append, encT_len]; omega) hr)
theorem rPut_l0 (l : List Fl) (h : ∀ x ∈ l, rightX x = true) (hl : l.length ≤ 64) : ∀ d j (b : List Int), l.length - j = d → j ≤ l.length → b.length ≤ 65000 → Ev (fun k => musterref04_Put.l0 k l b (j : Int)) (if 65000 < (b ++ (l.drop j).flatMap putX).length then ([], 3) else (b ++ (l.drop j).flatMap putX, 0))
  | 0, j, b, hd, hj, hb => Ev.stp (fun k => by rw [musterref04_Put.l0]) (Ev.neg (by omega) (Ev.one (by rw [List.drop_of_length_le (by omega), List.flatMap_nil, List.append_nil, if_neg (by omega)])))
  | d + 1, j, b, hd, hj, hb => by
    have hlt : j < l.length := by omega
    have hx := h l[j] (List.getElem_mem hlt)
    rw [List.drop_eq_getElem_cons hlt, List.flatMap_cons, ← List.append_assoc]
    have hgo : Ev (goOn l (b ++ putX l[j]) j) (if 65000 < (b ++ putX l[j] ++ (l.drop (j + 1)).flatMap putX).length then ([], 3) else (b ++ putX l[j] ++ (l.drop (j + 1)).flatMap putX, 0)) := by
      unfold goOn
      by_cases hc : 65000 < (b ++ putX l[j]).length
      · rw [if_pos (by rw [List.length_append]; omega)]
        exact Ev.pos (by omega) (Ev.one rfl)
      · refine Ev.neg (by omega) ?_
        rw [wr1 (by omega)]
        exact rPut_l0 l h hl d (j + 1) (b ++ putX l[j]) (by omega) (by omega) (by omega)
    generalize (if 65000 < (b ++ putX l[j] ++ (l.drop (j + 1)).flatMap putX).length then (([] : List Int), (3 : Int)) else (b ++ putX l[j] ++ (l.drop (j + 1)).flatMap putX, 0)) = r at hgo ⊢
    refine Ev.stp (fun k => by rw [musterref04_Put.l0]) (Ev.pos (by omega) (Ev.pos (by omega) ?_))
    rw [rdF l j hlt]
    obtain ⟨x, ex⟩ : ∃ x, x = l[j] := ⟨_, rfl⟩
    rw [← ex] at hx hgo ⊢
    have hl2 : (b ++ [x.f0, x.f1]).length = b.length + 2 := by rw [List.length_append]; rfl
    refine Ev.sbnd (Ev.pos (show b.length + 2 < _ by omega) (Ev.sbnd ?_))
    unfold putX tailX at hgo
    rw [← List.append_assoc] at hgo
    rcases right_cases hx with ⟨e, _⟩ | ⟨e, _, hs⟩ | ⟨e, _, hs⟩ | ⟨e, _, hs, hs2⟩
    · rw [if_pos e] at hgo
      refine Ev.pos e ?_
      rw [refAdd8_f _ _ (by omega)]
      exact Ev.sbnd hgo
    · rw [if_neg (by omega), if_pos e] at hgo
      refine Ev.neg (by omega) (Ev.pos e ?_)
      rw [refAddText_f _ _ (by omega) hs]
      exact Ev.sbnd hgo
    · rw [if_neg (by omega), if_neg (by omega), if_pos e, ← List.append_assoc] at hgo
      refine Ev.neg (by omega) (Ev.neg (by omega) (Ev.pos e ?_))
      rw [u64_small _ (by omega), show musterref01_Add.f _ _ 2 = _ from refAdd_f _ _ 2 (by omega) (by omega) (by omega) (by omega) (by omega)]
      exact Ev.sbnd (rPut_l1 l x j r hs _ 0 _ rfl (Nat.zero_le _) (by rw [List.length_append, be_length]; omega) hgo)
    · rw [if_neg (by omega), if_neg (by omega), if_neg (by omega), if_pos e, ← List.append_assoc] at hgo
      refine Ev.neg (by omega) (Ev.neg (by omega) (Ev.neg (by omega) (Ev.pos e ?_)))
      rw [u64_small _ (by omega), show musterref01_Add.f _ _ 2 = _ from refAdd_f _ _ 2 (by omega) (by omega) (by omega) (by omega) (by omega)]
      exact Ev.sbnd (rPut_l2 l x j r hs2 hs _ 0 _ rfl (Nat.zero_le _) (by rw [List.length_append, be_length]; omega) hgo)
theorem be_one (n : Nat) (h : n ≤ 255) : be (n : Int) 1 = [(n : Int)] := by
  simp [be]
  omega
theorem rPut_ev (l : List Fl) (hm : ∀ x ∈ l, Mem9 x) : Ev (fun k => musterref04_Put.f k l) (putR l) := by
  unfold musterref04_Put.f
  refine Ev.bnd (rRight_ev l hm) ?_
  by_cases hr : rightL l = true
  · obtain ⟨hx, h64⟩ := rightL_mem hr
    rw [hr]
    refine Ev.pos rfl ?_
    rw [u64_small _ (by omega), show musterref01_Add.f [] _ 1 = _ from refAdd_f [] _ 1 (by omega) (by omega) (by omega) (by omega) (by simp)]
    refine Ev.sbnd ?_
    have := rPut_l0 l hx h64 _ 0 ([] ++ be (l.length : Int) 1) rfl (Nat.zero_le _) (by rw [List.nil_append, be_length]; omega)
    rw [List.nil_append, be_one _ (by omega), List.drop_zero] at this
    rw [List.nil_append, be_one _ (by omega)]
    unfold putR
    rw [if_pos hr]
    exact this
  · rw [Bool.not_eq_true] at hr
    rw [hr]
    refine Ev.neg (by decide) (Ev.one ?_)
    unfold putR
    rw [if_neg (by rw [hr]; decide)]
/-! ### the copy -/
/-- No row of it is longer than a copy may be. -/
def Cop (x : Fl) : Prop := x.f4.length < 17592186044416 ∧ x.f5.length < 8796093022208
theorem copyF_l0 (l : List Fl) (hl : l.length ≤ 1759218604441) (hc : ∀ x ∈ l, Cop x) : ∀ d j, l.length - j = d → j ≤ l.length → Ev (fun k => musterlow_CopyFields.l0 k l (l.take j) (j : Int)) l
  | 0, j, hd, hj => Ev.stp (fun k => by rw [musterlow_CopyFields.l0]) (Ev.neg (by omega) (Ev.one (by rw [List.take_of_length_le (by omega)])))
  | d + 1, j, hd, hj => by
    have hlt : j < l.length := by omega
    have hx := hc l[j] (List.getElem_mem hlt)
    refine Ev.stp (fun k => by rw [musterlow_CopyFields.l0]) (Ev.pos (by omega) (Ev.pos (by omega) ?_))
    rw [rdF l j hlt]
    unfold musterlow_CopyNumbers.f musterlow_CopyTexts.f
    rw [if_pos (by simp only [List.length_nil]; have := hx.1; omega), if_pos (by simp only [List.length_nil]; have := hx.2; omega), List.nil_append, List.nil_append]
    refine Ev.sbnd (Ev.sbnd (Ev.pos (by rw [List.length_take]; omega) ?_))
    rw [show (⟨l[j].f0, l[j].f1, l[j].f2, l[j].f3, l[j].f4, l[j].f5⟩ : Fl) = l[j] from rfl, take_next l j hlt, wr1 (by omega)]
    exact copyF_l0 l hl hc d (j + 1) (by omega) (by omega)
theorem copyF_ev (l : List Fl) (hl : l.length ≤ 1759218604441) (hc : ∀ x ∈ l, Cop x) : Ev (fun k => musterlow_CopyFields.f k l) l := by
  unfold musterlow_CopyFields.f
  have := copyF_l0 l hl hc _ 0 rfl (Nat.zero_le _)
  rw [List.take_zero] at this
  exact this
end Go.Proofs.Ytnhkbjihgepapaa.Fd

namespace Go.Proofs.Ytnhkbjihgepapaa.Fd
set_option linter.unusedVariables false
set_option linter.unusedSimpArgs false
open Go.RowKit Go.Proofs.YtnhkbjihgepapaaW.PrintWords Go.Proofs.YtnhkbjihgepapaaW.PrintLast Go.Proofs.YtnhkbjihgepapaaW.PrintMore Go.Proofs.Ytnhkbjihgepapaa.PF Go.Proofs.Ytnhkbjihgepapaa.Oct Go.Proofs.Ytnhkbjihgepapaa.EvK
attribute [local go_sem] max2_int min2_int max_two min_two max_three min_three max_four min_four
theorem putX_bytes {x : Fl} (hx : rightX x = true) (hw : Wf x) : Bts (putX x) := by
  have hk := kind_range hx
  have hN : ∀ ns : List Int, Bts (ns.flatMap encN) := fun ns z hz => by
    obtain ⟨n, _, h⟩ := List.mem_flatMap.1 hz
    exact be_bytes _ _ z h
  have hT : ∀ ts : List ByteArray, Bts (ts.flatMap encT) := fun ts z hz => by
    obtain ⟨n, _, h⟩ := List.mem_flatMap.1 hz
    exact bytes_append (be_bytes _ _) (bytesOf_bytes _) z h
  unfold putX
  refine bytes_append (fun z hz => ?_) ?_
  · rcases List.mem_cons.1 hz with rfl | hz
    · exact hw.1
    · rw [List.mem_singleton.1 hz]
      omega
  · unfold tailX
    split
    · exact be_bytes _ _
    · split
      · exact bytes_append (be_bytes _ _) (bytesOf_bytes _)
      · split
        · exact bytes_append (be_bytes _ _) (hN _)
        · split
          · exact bytes_append (be_bytes _ _) (hT _)
          · exact fun z hz => (List.not_mem_nil hz).elim
theorem putL_bytes {l : List Fl} (hr : rightL l = true) (hw : ∀ x ∈ l, Wf x) : Bts (putL l) := by
  have hm := rightL_mem hr
  unfold putL
  refine bytes_append (fun z hz => ?_) (fun z hz => ?_)
  · rw [List.mem_singleton.1 hz]
    omega
  · obtain ⟨x, hx, h⟩ := List.mem_flatMap.1 hz
    exact putX_bytes (hm.1 x hx) (hw x hx) z h
theorem putR_says (l : List Fl) : ((putR l).2 = 0 ∧ rightL l = true ∧ (putR l).1 = putL l ∧ (putL l).length ≤ 65000) ∨ ((putR l).2 = 3 ∧ rightL l = true ∧ (putR l).1 = []) ∨ ((putR l).2 = 2 ∧ rightL l = false ∧ (putR l).1 = []) := by
  unfold putR
  cases hr : rightL l with
  | true =>
    rw [if_pos rfl]
    split
    · exact Or.inr (Or.inl ⟨rfl, rfl, rfl⟩)
    · exact Or.inl ⟨rfl, rfl, rfl, by omega⟩
  | false => exact Or.inr (Or.inr ⟨rfl, rfl, rfl⟩)
theorem putR_bytes {l : List Fl} (hw : ∀ x ∈ l, Wf x) : Bts (putR l).1 := by
  rcases putR_says l with ⟨_, h, e, _⟩ | ⟨_, _, e⟩ | ⟨_, _, e⟩
  · rw [e]; exact putL_bytes h hw
  · rw [e]; exact fun z hz => (List.not_mem_nil hz).elim
  · rw [e]; exact fun z hz => (List.not_mem_nil hz).elim
theorem Put_calls (l : List Fl) (A : Option Addr) (c n : Nat) (hn : n = l.length) (w : World) (hr : Kd.C k30 w A l.length l) (hc : l.length ≤ c) (hl : l.length ≤ 9000000000000000) :
    Calls Try.prog 8 #[.slice A n c] w fun e w' => ∃ A' c', e = .returned (.tuple #[.slice A' (putR l).1.length c', .int .i64 (putR l).2]) ∧ (putR l).1.length ≤ c' ∧ Kd.C (Kd.int .u8) w' A' (putR l).1.length (putR l).1 ∧ Below w.heap.size w w' := by
  subst hn
  obtain ⟨k, hk⟩ := Ev.the (Put_ev l hl)
  refine (field_Put.calls k A c l (putR l).1 (putR l).2 w hr hc hk).mono ?_
  rintro e w' ⟨v, rfl, ho, hb⟩
  obtain ⟨A', c', rfl, h1, h2⟩ := Kd.R_reads ho
  exact ⟨A', c', rfl, h1, h2, hb⟩
theorem All_calls (b : List Int) (A : Option Addr) (c n : Nat) (hn : n = b.length) (w : World) (hr : Kd.C (Kd.int .u8) w A b.length b) (hc : b.length ≤ c) (hb : Bts b) (hl : b.length ≤ 140737488355328) :
    Calls Try.prog 11 #[.slice A n c] w fun e w' => ∃ A' c', e = .returned (.tuple #[.slice A' (allF b).1.length c', .int .i64 (allF b).2]) ∧ (allF b).1.length ≤ c' ∧ Kd.C k30 w' A' (allF b).1.length (allF b).1 ∧ Below w.heap.size w w' := by
  subst hn
  refine (all_calls A c b w hr hc (okBytes_iff.2 ⟨hl, hb⟩)).mono ?_
  rintro e w' ⟨v, rfl, ho, hb⟩
  obtain ⟨A', c', rfl, h1, h2⟩ := Kd.S_reads ho
  exact ⟨A', c', rfl, h1, h2, hb⟩
theorem Same_calls (l m : List Fl) (A : Option Addr) (c n : Nat) (hn : n = l.length) (A1 : Option Addr) (c1 n1 : Nat) (hn1 : n1 = m.length) (w : World) (hr : Kd.C k30 w A l.length l) (hc : l.length ≤ c) (hr1 : Kd.C k30 w A1 m.length m) (hc1 : m.length ≤ c1) (hl : l.length < 9000000000000000000) (hm : ∀ x ∈ l, Mem9 x) :
    Calls Try.prog 20 #[.slice A n c, .slice A1 n1 c1] w fun e w' => e = .returned (.bool (decide (l = m))) ∧ Below w.heap.size w w' := by
  subst hn hn1
  obtain ⟨k, hk⟩ := Ev.the (sameFs_ev l m hl hm)
  exact musterlow_SameFields.calls k A c l A1 c1 m _ w hr hc hr1 hc1 hk
theorem Bytes_calls (A : Option Addr) (c n : Nat) (l : List Int) (hn : n = l.length) (A1 : Option Addr) (c1 n1 : Nat) (m : List Int) (hn1 : n1 = m.length) (w : World) (hr : Kd.C (Kd.int .u8) w A l.length l) (hr1 : Kd.C (Kd.int .u8) w A1 m.length m) (hl : Bts l) (hm : Bts m) :
    Calls Try.prog 9 #[.slice A n c, .slice A1 n1 c1] w fun e w' => e = .returned (.bool (decide (l = m))) ∧ Below w.heap.size w w' := by
  subst hn hn1
  exact (Low.same_calls A c l A1 c1 m w hr hr1 hl hm).mono fun e w' h => ⟨h.1, h.2.below⟩
theorem awake_calls (w : World) : Calls Try.prog 13 #[] w fun e w' => e = .returned (.bool true) ∧ Below w.heap.size w w' := by
  obtain ⟨k, hk⟩ := Ev.the awake_ev
  exact musterlaw04_awake.calls k true w hk
theorem apart_bytes {l m : List Fl} (hr : rightL l = true) (hw : ∀ x ∈ l, Wf x) (hr' : rightL m = true) (hw' : ∀ x ∈ m, Wf x) (h : ¬ l = m) (k : Nat) (hk : k = (putL l).length ∨ k = (putL m).length) : ¬ (putL l).take k = (putL m).take k := by
  intro e
  rcases hk with hk | hk
  · rw [hk, List.take_length] at e
    have e' := List.take_append_drop (putL l).length (putL m)
    rw [← e] at e'
    exact h (putL_inj hr hw hr' hw' (z := (putL m).drop (putL l).length) (z' := []) (by rw [List.append_nil]; exact e'))
  · rw [hk, List.take_length] at e
    have e' := List.take_append_drop (putL m).length (putL l)
    rw [e] at e'
    exact h (putL_inj hr hw hr' hw' (z := []) (z' := (putL l).drop (putL m).length) (by rw [List.append_nil]; exact e'.symm))
def BK (w w' : World) : Prop := Below w.heap.size w w'
theorem BK.keep {w w1 w2 : World} (h : BK w w1) (hb : Below w1.heap.size w1 w2) : BK w w2 := below_then h h.size hb
set_option maxRecDepth 100000 in
set_option maxHeartbeats 8000000 in
theorem apart_law (l m : List Fl) (A0 : Option Addr) (c0 : Nat) (A1 : Option Addr) (c1 : Nat) (w : World) (hr0 : Kd.C k30 w A0 l.length l) (hc0 : l.length ≤ c0) (hr1 : Kd.C k30 w A1 m.length m) (hc1 : m.length ≤ c1) (hl : l.length ≤ 9000000000000000) (hm : m.length ≤ 9000000000000000) (wl : ∀ x ∈ l, Wf x ∧ Mem9 x) (wm : ∀ x ∈ m, Wf x ∧ Mem9 x) :
    Calls Try.prog 7 #[.slice A0 l.length c0, .slice A1 m.length c1] w fun e w' => e = .returned (.bool true) ∧ Below w.heap.size w w' := by
  obtain ⟨n0, hn0⟩ : ∃ n, n = l.length := ⟨_, rfl⟩
  obtain ⟨n1, hn1⟩ : ∃ n, n = m.length := ⟨_, rfl⟩
  have HP0 := Lib.hid (Put_calls l A0 c0 n0 hn0 w hr0 hc0 hl)
  have HP1 := Lib.hid (fun W (hb : Below w.heap.size w W) => Put_calls m A1 c1 n1 hn1 W (Kd.C_below hr1 hb) hc1 hm)
  have HSf := Lib.hid (fun W (hb : Below w.heap.size w W) => Same_calls l m A0 c0 n0 hn0 A1 c1 n1 hn1 W (Kd.C_below hr0 hb) hc0 (Kd.C_below hr1 hb) hc1 (by omega) (fun x hx => (wl x hx).2))
  have HS0 := Lib.hid (putR_says l)
  have HS1 := Lib.hid (putR_says m)
  have HB0 := Lib.hid (putR_bytes (fun x hx => (wl x hx).1))
  have HB1 := Lib.hid (putR_bytes (fun x hx => (wm x hx).1))
  have HW := Lib.hid (And.intro wl wm)
  rw [← hn0, ← hn1]
  clear hr0 hc0 hr1 hc1 hl hm wl wm hn0 hn1
  obtain ⟨X, hX⟩ : ∃ X, X = (putR l).1 := ⟨_, rfl⟩
  obtain ⟨ex, hex⟩ : ∃ X, X = (putR l).2 := ⟨_, rfl⟩
  obtain ⟨Y, hY⟩ : ∃ X, X = (putR m).1 := ⟨_, rfl⟩
  obtain ⟨ey, hey⟩ : ∃ X, X = (putR m).2 := ⟨_, rfl⟩
  rw [← hX, ← hex] at HP0 HS0
  rw [← hX] at HB0
  rw [← hY, ← hey] at HP1 HS1
  rw [← hY] at HB1
  obtain ⟨nX, hnX⟩ : ∃ n, n = X.length := ⟨_, rfl⟩
  obtain ⟨nY, hnY⟩ : ∃ n, n = Y.length := ⟨_, rfl⟩
  rw [← hnX] at HP0
  rw [← hnY] at HP1
  have HN := Lib.hid (And.intro hnX hnY)
  clear hX hex hY hey hnX hnY
  go_enter Try.func7, Try.ntmps7
  go_wp2_with fail
  refine HP0.out.mono ?_
  rintro e w1 ⟨AX, cX, rfl, hcX, hrX, hb⟩
  have HX := Lib.hid (And.intro hcX hrX)
  have HBa := Lib.hid hb
  clear hcX hrX hb HP0
  go_wp2_with fail
  refine (HP1.out w1 HBa.out).mono ?_
  rintro e w2 ⟨AY, cY, rfl, hcY, hrY, hb⟩
  have HY := Lib.hid (And.intro hcY hrY)
  have HX2 := Lib.hid (Kd.C_below HX.out.2 hb)
  have HBb := Lib.hid (below_then HBa.out HBa.out.size hb)
  clear hcY hrY hb HP1
  by_cases h00 : ex = 0 ∧ ey = 0
  case neg =>
    have hsum : 0 < ex + ey ∧ ex + ey ≤ 6 := by
      have h1 := HS0.out
      have h2 := HS1.out
      rcases h1 with ⟨h1, _⟩ | ⟨h1, _⟩ | ⟨h1, _⟩ <;> rcases h2 with ⟨h2, _⟩ | ⟨h2, _⟩ | ⟨h2, _⟩ <;> omega
    have hv : wrap64 (ex + ey) = ex + ey := by unfold wrap64; omega
    have hv2 : IntKind.i64.wrap (ex + ey) = ex + ey := by rw [IntKind.wrap_i64]; omega
    have hne : ((ex + ey) != 0) = true := by simp; omega
    have hne2 : ¬ ex + ey = 0 := by omega
    have HAw := Lib.hid (awake_calls w2)
    clear h00
    go_wp2_with fail
    refine HAw.out.mono ?_
    rintro e w3 ⟨rfl, hb⟩
    have HBc := Lib.hid (below_then HBb.out HBb.out.size hb)
    clear hb
    go_wp2
    go_ret
    exact ⟨rfl, HBc.out⟩
  obtain ⟨rfl, rfl⟩ := h00
  have HL0 : Hid (rightL l = true ∧ X = putL l) := Lib.hid (by
    rcases HS0.out with ⟨_, h1, h2, _⟩ | ⟨h, _⟩ | ⟨h, _⟩
    · exact ⟨h1, h2⟩
    · cases h
    · cases h)
  have HL1 : Hid (rightL m = true ∧ Y = putL m) := Lib.hid (by
    rcases HS1.out with ⟨_, h1, h2, _⟩ | ⟨h, _⟩ | ⟨h, _⟩
    · exact ⟨h1, h2⟩
    · cases h
    · cases h)
  have hw0 : wrap64 0 = 0 := by decide +kernel
  clear HS0 HS1
  go_wp2_with fail
  refine (HSf.out w2 HBb.out).mono ?_
  rintro e w3 ⟨rfl, hb⟩
  have HX3 := Lib.hid (Kd.C_below HX2.out hb)
  have HY3 := Lib.hid (Kd.C_below HY.out.2 hb)
  have HBc := Lib.hid (below_then HBb.out HBb.out.size hb)
  clear hb HSf
  by_cases hlm : l = m
  · have HXY : Hid (decide (X = Y) = true) := Lib.hid (decide_eq_true (by rw [HL0.out.2, HL1.out.2, hlm]))
    rw [decide_eq_true hlm]
    have HSb := Lib.hid (Bytes_calls AX cX nX X HN.out.1 AY cY nY Y HN.out.2 w3 (by rw [← HN.out.1]; exact HX3.out) (by rw [← HN.out.2]; exact HY3.out) HB0.out HB1.out)
    rw [HXY.out] at HSb
    clear hlm
    go_wp2_with fail
    refine HSb.out.mono ?_
    rintro e w4 ⟨rfl, hb⟩
    have HBd := Lib.hid (below_then HBc.out HBc.out.size hb)
    clear hb
    go_wp2_with fail
    refine (awake_calls w4).mono ?_
    rintro e w5 ⟨rfl, hb⟩
    have HBe := Lib.hid (below_then HBd.out HBd.out.size hb)
    clear hb
    go_wp2
    go_ret
    exact ⟨rfl, HBe.out⟩
  · rw [decide_eq_false hlm]
    have HLM := Lib.hid hlm
    clear hlm
    go_upto_region 8 with (fail)
    obtain ⟨k, hk, hkl, hk0, hk1⟩ : ∃ k : Nat, (if nY < nX then (nY : Int) else (nX : Int)) = (k : Int) ∧ (k = nX ∨ k = nY) ∧ k ≤ nX ∧ k ≤ nY := by
      by_cases h : nY < nX
      · exact ⟨nY, by rw [if_pos h], Or.inr rfl, by omega, Nat.le_refl _⟩
      · exact ⟨nX, by rw [if_neg h], Or.inl rfl, Nat.le_refl _, by omega⟩
    rw [hk]
    have HNE : Hid (decide (X.take k = Y.take k) = false) := Lib.hid (decide_eq_false (by
      have hx := HL0.out.2
      have hy := HL1.out.2
      rw [hx, hy]
      exact apart_bytes HL0.out.1 (fun x hx => (HW.out.1 x hx).1) HL1.out.1 (fun x hx => (HW.out.2 x hx).1) HLM.out k (by rw [← hx, ← hy, ← HN.out.1, ← HN.out.2]; exact hkl)))
    obtain ⟨i0, hi0, _, hz1, _⟩ := info_parts Low.info8
    have s1 := fun W => Low.cut_h (P := Try.prog) 22 5 Try.underlying22 hi0 hz1 AX nX cX k (by have := HX.out.1; have := HN.out.1; omega) W
    have s2 := fun W => Low.cut_h (P := Try.prog) 22 5 Try.underlying22 hi0 hz1 AY nY cY k (by have := HY.out.1; have := HN.out.2; omega) W
    have HSb := Lib.hid (fun (W : World) (hb : BK w3 W) => show Calls Try.prog 9 #[.slice AX k cX, .slice AY k cY] W fun e w' => e = .returned (.bool false) ∧ Below W.heap.size W w' by
      have h := Bytes_calls AX cX k (X.take k) (by rw [List.length_take, ← HN.out.1]; omega) AY cY k (Y.take k) (by rw [List.length_take, ← HN.out.2]; omega) W (by
        have := Low.take_C (Kd.C_below (by rw [HN.out.1] at HX3; exact HX3.out) hb) k (by rw [← HN.out.1]; exact hk0)
        rw [List.length_take, ← HN.out.1, Nat.min_eq_left hk0]
        exact this) (by
        have := Low.take_C (Kd.C_below (by rw [HN.out.2] at HY3; exact HY3.out) hb) k (by rw [← HN.out.2]; exact hk1)
        rw [List.length_take, ← HN.out.2, Nat.min_eq_left hk1]
        exact this) (fun x hx => HB0.out x (List.mem_of_mem_take hx)) (fun x hx => HB1.out x (List.mem_of_mem_take hx))
      rw [HNE.out] at h
      exact h)
    clear hk hkl hk0 hk1 hi0 hz1
    have hbk : BK w3 w3.drew := below_drew1 (Below.refl _ _)
    go_region_held3 (fun w' => BK w3 w')
      (first | exact BK.keep (by assumption) (by assumption) | exact BK.keep (by assumption) (below_drew1 (Below.refl _ _)) | exact hbk)
      (first
        | (go_at_call 9; refine (HSb.out _ (by assumption)).mono ?_; rintro e w5 ⟨rfl, hb5⟩)
        | (go_at_call 13; refine (awake_calls _).mono ?_; rintro e w6 ⟨rfl, hb6⟩))
    all_goals
      go_wp2
      go_ret
      exact ⟨rfl, below_then HBc.out HBc.out.size (by assumption)⟩
end Go.Proofs.Ytnhkbjihgepapaa.Fd

namespace Go.Proofs.Ytnhkbjihgepapaa.Fd
set_option linter.unusedVariables false
set_option linter.unusedSimpArgs false
open Go.RowKit Go.Proofs.YtnhkbjihgepapaaW.PrintWords Go.Proofs.YtnhkbjihgepapaaW.PrintLast Go.Proofs.YtnhkbjihgepapaaW.PrintMore Go.Proofs.Ytnhkbjihgepapaa.PF Go.Proofs.Ytnhkbjihgepapaa.Oct Go.Proofs.Ytnhkbjihgepapaa.Gen Go.Proofs.Ytnhkbjihgepapaa.EvK
def zF : Fl := ⟨0, 0, 0, ⟨#[]⟩, [], []⟩
def getX (l : List Fl) (t : Int) : Fl := (l.find? (tagIs t)).getD zF
def getB (l : List Fl) (t : Int) : Bool := (l.find? (tagIs t)).isSome
theorem getT_eq (l : List Fl) (t : Int) : getT l t = ((getX l t).f0, (getX l t).f1, (getX l t).f2, (getX l t).f3, (getX l t).f4, (getX l t).f5, getB l t) := by
  unfold getT getX getB
  cases l.find? (tagIs t) <;> rfl
theorem find_at {l : List Fl} {p : Fl → Bool} {j : Nat} (hj : j < l.length) (hb : ∀ i (hi : i < j) (hl : i < l.length), p l[i] = false) (hp : p l[j] = true) : l.find? p = some l[j] := by
  rw [List.find?_eq_some_iff_getElem]
  exact ⟨hp, j, hj, rfl, fun i hi => by rw [hb i hi (by omega)]; rfl⟩
theorem find_none {l : List Fl} {p : Fl → Bool} (hb : ∀ i (hl : i < l.length), p l[i] = false) : l.find? p = none := by
  rw [List.find?_eq_none]
  intro x hx
  obtain ⟨i, hi, rfl⟩ := List.getElem_of_mem hx
  rw [hb i hi]
  decide
/-- A field's value, its rows read. -/
def FV (w : World) (x : Fl) (v : Value) : Prop := ∃ A4 c4 A5 c5, v = .agg #[.int .u8 x.f0, .int .u8 x.f1, .int .i64 x.f2, .string x.f3, .slice A4 x.f4.length c4, .slice A5 x.f5.length c5] ∧ x.f4.length ≤ c4 ∧ Kd.C (Kd.int .i64) w A4 x.f4.length x.f4 ∧ x.f5.length ≤ c5 ∧ Kd.C Kd.string w A5 x.f5.length x.f5
theorem FV.below {w w' : World} {x : Fl} {v : Value} (h : FV w x v) (hb : Below w.heap.size w w') : FV w' x v := by
  obtain ⟨A4, c4, A5, c5, e, h1, h2, h3, h4⟩ := h
  exact ⟨A4, c4, A5, c5, e, h1, Kd.C_below h2 hb, h3, Kd.C_below h4 hb⟩
theorem FV.nil (w : World) : FV w zF (.agg #[.int .u8 0, .int .u8 0, .int .i64 0, .string ⟨#[]⟩, .slice none 0 0, .slice none 0 0]) := ⟨none, 0, none, 0, rfl, Nat.le_refl _, Kd.C_nil _ _, Nat.le_refl _, Kd.C_nil _ _⟩
theorem getF_calls (l : List Fl) (A : Option Addr) (c n : Nat) (hn : n = l.length) (t : Int) (w : World) (hr : Kd.C k30 w A l.length l) (hc : l.length ≤ c) (hok : okGet l = true) :
    Calls Try.prog 16 #[.slice A n c, .int .u8 t] w fun e w' => ∃ v, e = .returned (.tuple #[v, .bool (getB l t)]) ∧ FV w' (getX l t) v ∧ Below w.heap.size w w' := by
  subst hn
  refine (get_calls l A c t w hr hc hok).mono ?_
  rw [getT_eq]
  rintro e w' ⟨v4, v5, rfl, h4, h5, hb⟩
  obtain ⟨A4, c4, rfl, e4, g4⟩ := Kd.R_reads h4
  obtain ⟨A5, c5, rfl, e5, g5⟩ := Kd.R_reads h5
  exact ⟨_, rfl, ⟨A4, c4, A5, c5, rfl, e4, g4, e5, g5⟩, hb⟩
set_option maxRecDepth 100000 in
set_option maxHeartbeats 8000000 in
theorem refGet_calls (l : List Fl) (A : Option Addr) (c n : Nat) (hn : n = l.length) (t : Int) (w : World) (hr : Kd.C k30 w A l.length l) (hc : l.length ≤ c) :
    Calls Try.prog 17 #[.slice A n c, .int .u8 t] w fun e w' => ∃ v, e = .returned (.tuple #[v, .bool (getB l t)]) ∧ FV w' (getX l t) v ∧ Below w.heap.size w w' := by
  have hlen : n ≤ 9223372036854775807 := by rw [hn]; exact hr.2.1
  have HR := Lib.hid hr
  have HN := Lib.hid hn
  clear hr hc hn
  have HB := Lib.hid (below_alloc (Below.refl w.heap.size w) (.cells #[.int .u8 0, .int .u8 0, .int .i64 0, .string ⟨#[]⟩, .slice none 0 0, .slice none 0 0] 30))
  have HZ := Lib.hid (heap_alloc_new w (.cells #[.int .u8 0, .int .u8 0, .int .i64 0, .string ⟨#[]⟩, .slice none 0 0, .slice none 0 0] 30))
  go_enter Try.func17, Try.ntmps17
  go_upto_region 1 with (fail)
  generalize World.alloc _ _ = W at HB HZ ⊢
  obtain ⟨b, hbb⟩ : ∃ g, g = w.heap.size := ⟨_, rfl⟩
  rw [← hbb] at HZ ⊢
  have HGB := Lib.hid (show w.heap.size ≤ b by omega)
  clear hbb
  go_wp2
  go_loopw [6] (fun i wr => ∃ j : Nat, j ≤ n ∧ i = .int .i64 j ∧ Hid (∀ i (hi : i < j) (hl : i < l.length), tagIs t l[i] = false) ∧ Hid (Below w.heap.size w wr) ∧ Hid (wr.heap[b]? = some (.cells #[.int .u8 0, .int .u8 0, .int .i64 0, .string ⟨#[]⟩, .slice none 0 0, .slice none 0 0] 30 (0, 0)))) (fun i _ => n - (intOf i).toNat)
  case atStart => exact ⟨0, Nat.zero_le _, rfl, Lib.hid (fun i hi => absurd hi (Nat.not_lt_zero _)), HB, HZ⟩
  case round =>
    clear HB HZ
    obtain ⟨j, hj, rfl, HNo, HB, HZ⟩ := hrel
    by_cases hlt : j < n
    · have hlt' : j < l.length := by rw [← HN.out]; exact hlt
      obtain ⟨ad, cs, eA, hK, hld0⟩ := load_mid (t := 30) Try.underlying30 rfl infoFg HR.out j hlt'
      obtain ⟨ad2, A4', c4', A5', c5', eA2, hx0, _⟩ := at_T30 (Kd.C_below HR.out HB.out) (j : Int) (by omega) (by omega)
      rw [rdF l j hlt', Int.toNat_natCast] at hx0
      cases eA
      cases eA2
      obtain ⟨x, hx⟩ : ∃ x, x = l[j] := ⟨_, rfl⟩
      rw [← hx] at hK hx0
      obtain ⟨A4, c4, A5, c5, rfl, hc4, hr4, hc5, hr5⟩ := k30_open hK
      have HD := Lib.hid (And.intro (And.intro hc4 hr4) (And.intro hc5 hr5))
      have HX := Lib.hid hx
      have hld : (Instr.loadAt 30 (.pointer (some (ad.add (j * 6))))).run Try.prog wr = .ok (.agg #[.int .u8 x.f0, .int .u8 x.f1, .int .i64 x.f2, .string x.f3, .slice A4 x.f4.length c4, .slice A5 x.f5.length c5]) wr := hld0 wr HB.out
      obtain ⟨n4, hn4⟩ : ∃ m, m = x.f4.length := ⟨_, rfl⟩
      obtain ⟨n5, hn5⟩ : ∃ m, m = x.f5.length := ⟨_, rfl⟩
      rw [← hn4, ← hn5] at hld
      have HN4 := Lib.hid (And.intro hn4 hn5)
      clear hld0 hK hc4 hr4 hc5 hr5 hx hn4 hn5
      by_cases ht : x.f0 = t
      · have HT := Lib.hid (show tagIs t x = true by unfold tagIs; rw [ht]; exact beq_self_eq_true t)
        rw [ht] at hx0
        clear ht
        go_wp2_with (first | ((with_reducible refine gate_ (.load 30 (.tmp 22)) rfl ?_); refine wl_load 30 (.tmp 22) rfl rfl _ _ rfl hld ?_) | ((with_reducible refine gate_store (t := 30) (p := 4) rfl ?_); refine wl_store (old := #[.int .u8 0, .int .u8 0, .int .i64 0, .string ⟨#[]⟩, .slice none 0 0, .slice none 0 0]) (cells := #[.int .u8 x.f0, .int .u8 x.f1, .int .i64 x.f2, .string x.f3, .slice A4 n4 c4, .slice A5 n5 c5]) 30 (.tmp 4) (.tmp 23) rfl rfl rfl rfl HZ.out infoFg rfl (by simp [Value.oneCell']) ?_) | fail)
        refine bodyPost_ret (results_ct rfl _ _ b 30 #[.int .u8 x.f0, .int .u8 x.f1, .int .i64 x.f2, .string x.f3, .slice A4 n4 c4, .slice A5 n5 c5] (0, 0) _ rfl (setRow_heap _ _ _ _ _ _ HZ.out) Try.underlying30 rfl infoFg) rfl ?_
        have hB := below_setRow HB.out HGB.out #[.int .u8 x.f0, .int .u8 x.f1, .int .i64 x.f2, .string x.f3, .slice A4 n4 c4, .slice A5 n5 c5]
        have hj' : j < l.length := by rw [← HN.out]; exact hlt
        have hf := find_at hj' HNo.out (by rw [← HX.out]; exact HT.out)
        rw [← HX.out] at hf
        have e1 : getX l t = x := by unfold getX; rw [hf]; rfl
        have e2 : getB l t = true := by unfold getB; rw [hf]; rfl
        rw [e1, e2]
        refine ⟨_, rfl, ⟨A4, c4, A5, c5, ?_, HD.out.1.1, Kd.C_below HD.out.1.2 hB, HD.out.2.1, Kd.C_below HD.out.2.2 hB⟩, hB⟩
        rw [← HN4.out.1, ← HN4.out.2]
      · have HT := Lib.hid (show tagIs t x = false by unfold tagIs; exact beq_eq_false_iff_ne.2 ht)
        go_wp2
        go_roundw
        case rel => exact ⟨j + 1, by omega, by simp, Lib.hid (fun i hi hl => by
          rcases Nat.lt_succ_iff_lt_or_eq.1 hi with h | h
          · exact HNo.out i h hl
          · subst h
            rw [← HX.out]
            exact HT.out), HB, HZ⟩
        case measure => simp [intOf]; omega
    · obtain rfl : n = j := by omega
      have hf : l.find? (tagIs t) = none := find_none (fun i hl => HNo.out i (by rw [HN.out]; exact hl) hl)
      have HF := Lib.hid hf
      clear hf
      go_wp2_with (first | ((with_reducible refine gate_store (t := 30) (p := 4) rfl ?_); refine wl_store (old := #[.int .u8 0, .int .u8 0, .int .i64 0, .string ⟨#[]⟩, .slice none 0 0, .slice none 0 0]) (cells := #[.int .u8 0, .int .u8 0, .int .i64 0, .string ⟨#[]⟩, .slice none 0 0, .slice none 0 0]) 30 (.tmp 4) (.tmp 24) rfl rfl rfl rfl HZ.out infoFg rfl (by simp [Value.oneCell']) ?_) | fail)
      refine bodyPost_ret (results_ct rfl _ _ b 30 #[.int .u8 0, .int .u8 0, .int .i64 0, .string ⟨#[]⟩, .slice none 0 0, .slice none 0 0] (0, 0) _ rfl (setRow_heap _ _ _ _ _ _ HZ.out) Try.underlying30 rfl infoFg) rfl ?_
      have e1 : getX l t = zF := by unfold getX; rw [HF.out]; rfl
      have e2 : getB l t = false := by unfold getB; rw [HF.out]; rfl
      rw [e1, e2]
      exact ⟨_, rfl, FV.nil _, below_setRow HB.out HGB.out _⟩
end Go.Proofs.Ytnhkbjihgepapaa.Fd

namespace Go.Proofs.Ytnhkbjihgepapaa.Fd
set_option linter.unusedVariables false
set_option linter.unusedSimpArgs false
open Go.RowKit Go.Proofs.YtnhkbjihgepapaaW.PrintWords Go.Proofs.YtnhkbjihgepapaaW.PrintLast Go.Proofs.YtnhkbjihgepapaaW.PrintMore Go.Proofs.Ytnhkbjihgepapaa.PF Go.Proofs.Ytnhkbjihgepapaa.Oct Go.Proofs.Ytnhkbjihgepapaa.EvK
attribute [local go_sem] max2_int min2_int max_two min_two max_three min_three max_four min_four
theorem Right_calls (l : List Fl) (A : Option Addr) (c n : Nat) (hn : n = l.length) (w : World) (hl : l.length ≤ 9000000000000000) (hr : Kd.C k30 w A l.length l) (hc : l.length ≤ c) : Calls Try.prog 10 #[.slice A n c] w fun e w' => e = .returned (.bool (rightL l)) ∧ Below w.heap.size w w' := by
  subst hn
  exact rightL_calls l A c w hl hr hc
theorem pick_any (a : Int) (n : Nat) (h0 : 1 ≤ n) (hn : n ≤ 4398046511104) : ∃ k : Nat, k < n ∧ ∀ w, Calls Try.prog 24 #[.int .i64 a, .int .i64 n] w fun e w' => e = .returned (.int .i64 k) ∧ Drawn0 w w' := by
  have h1 : -(n : Int) < Int.tmod a n ∧ Int.tmod a n < n := by
    have := Int.tmod_lt_of_pos a (show (0 : Int) < n by omega)
    have h2 := Int.tmod_lt_of_pos (-a) (show (0 : Int) < n by omega)
    rw [Int.neg_tmod] at h2
    exact ⟨by omega, this⟩
  by_cases hneg : Int.tmod a n < 0
  · obtain ⟨k, hk⟩ := Int.eq_ofNat_of_zero_le (show 0 ≤ Int.tmod a n + n by omega)
    refine ⟨k, by omega, fun w => musterlow_Pick.calls a n k w ?_⟩
    unfold musterlow_Pick.f
    rw [if_neg (by omega), if_neg (by omega), if_pos hneg]
    congr 1
    unfold wrap64
    omega
  · obtain ⟨k, hk⟩ := Int.eq_ofNat_of_zero_le (show 0 ≤ Int.tmod a n by omega)
    refine ⟨k, by omega, fun w => musterlow_Pick.calls a n k w ?_⟩
    unfold musterlow_Pick.f
    rw [if_neg (by omega), if_neg (by omega), if_neg hneg, hk]
/-- All refuses bytes. -/
theorem All_no (b : List Int) (A : Option Addr) (c n : Nat) (hn : n = b.length) (w : World) (hr : Kd.C (Kd.int .u8) w A b.length b) (hc : b.length ≤ c) (hb : Bts b) (hl : b.length ≤ 140737488355328) (h : allF b = ([], 40)) :
    Calls Try.prog 11 #[.slice A n c] w fun e w' => ∃ A' c', e = .returned (.tuple #[.slice A' 0 c', .int .i64 40]) ∧ Below w.heap.size w w' := by
  refine (All_calls b A c n hn w hr hc hb hl).mono ?_
  rw [h]
  rintro e w' ⟨A', c', rfl, _, _, hb⟩
  exact ⟨A', c', rfl, hb⟩
/-- All takes bytes. -/
theorem All_yes (b : List Int) (m : List Fl) (A : Option Addr) (c n : Nat) (hn : n = b.length) (w : World) (hr : Kd.C (Kd.int .u8) w A b.length b) (hc : b.length ≤ c) (hb : Bts b) (hl : b.length ≤ 140737488355328) (h : allF b = (m, 0)) (k : Nat) (hk : k = m.length) :
    Calls Try.prog 11 #[.slice A n c] w fun e w' => ∃ A' c', e = .returned (.tuple #[.slice A' k c', .int .i64 0]) ∧ k ≤ c' ∧ Kd.C k30 w' A' m.length m ∧ Below w.heap.size w w' := by
  subst hk
  refine (All_calls b A c n hn w hr hc hb hl).mono ?_
  rw [h]
  exact fun e w' h => h
theorem Put_yes (l : List Fl) (X : List Int) (A : Option Addr) (c n : Nat) (hn : n = l.length) (w : World) (hr : Kd.C k30 w A l.length l) (hc : l.length ≤ c) (hl : l.length ≤ 9000000000000000) (h : putR l = (X, 0)) (k : Nat) (hk : k = X.length) :
    Calls Try.prog 8 #[.slice A n c] w fun e w' => ∃ A' c', e = .returned (.tuple #[.slice A' k c', .int .i64 0]) ∧ k ≤ c' ∧ Kd.C (Kd.int .u8) w' A' X.length X ∧ Below w.heap.size w w' := by
  subst hk
  refine (Put_calls l A c n hn w hr hc hl).mono ?_
  rw [h]
  exact fun e w' h => h
set_option maxRecDepth 100000 in
set_option maxHeartbeats 8000000 in
theorem back_law (l : List Fl) (A0 : Option Addr) (c0 : Nat) (b : List Int) (A1 : Option Addr) (c1 : Nat) (ct : Int) (w : World) (hr0 : Kd.C k30 w A0 l.length l) (hc0 : l.length ≤ c0) (hr1 : Kd.C (Kd.int .u8) w A1 b.length b) (hc1 : b.length ≤ c1) (hl : l.length ≤ 9000000000000000) (wl : ∀ x ∈ l, Wf x ∧ Mem9 x) (hb1 : Bts b) (hbl : b.length ≤ 140737488355328) :
    Calls Try.prog 6 #[.slice A0 l.length c0, .slice A1 b.length c1, .int .i64 ct] w fun e w' => e = .returned (.bool true) ∧ Below w.heap.size w w' := by
  obtain ⟨n0, hn0⟩ : ∃ n, n = l.length := ⟨_, rfl⟩
  obtain ⟨n1, hn1⟩ : ∃ n, n = b.length := ⟨_, rfl⟩
  have HP0 := Lib.hid (Put_calls l A0 c0 n0 hn0 w hr0 hc0 hl)
  have HRt := Lib.hid (fun W (hb : Below w.heap.size w W) => Right_calls l A0 c0 n0 hn0 W hl (Kd.C_below hr0 hb) hc0)
  have HSf := Lib.hid (fun W (hb : Below w.heap.size w W) (A : Option Addr) (c : Nat) (hr : Kd.C k30 W A l.length l) (hc : n0 ≤ c) => show Calls Try.prog 20 #[.slice A0 n0 c0, .slice A n0 c] W fun e w' => e = .returned (.bool true) ∧ Below W.heap.size W w' by
    have h := Same_calls l l A0 c0 n0 hn0 A c n0 hn0 W (Kd.C_below hr0 hb) hc0 hr (by rw [← hn0]; exact hc) (by omega) (fun x hx => (wl x hx).2)
    rw [decide_eq_true rfl] at h
    exact h)
  have HS0 := Lib.hid (putR_says l)
  have HB0 := Lib.hid (putR_bytes (fun x hx => (wl x hx).1))
  have HW := Lib.hid (fun x hx => (wl x hx).1)
  have HD := Lib.hid (And.intro hr1 (And.intro hc1 (And.intro hb1 hbl)))
  have HN := Lib.hid (And.intro hn0 hn1)
  rw [← hn0, ← hn1]
  clear hr0 hc0 hr1 hc1 hl wl hn0 hn1 hb1 hbl
  obtain ⟨X, hX⟩ : ∃ X, X = (putR l).1 := ⟨_, rfl⟩
  obtain ⟨ex, hex⟩ : ∃ X, X = (putR l).2 := ⟨_, rfl⟩
  rw [← hX, ← hex] at HP0 HS0
  rw [← hX] at HB0
  obtain ⟨nX, hnX⟩ : ∃ n, n = X.length := ⟨_, rfl⟩
  rw [← hnX] at HP0
  have HNX := Lib.hid hnX
  clear hX hex hnX
  go_enter Try.func6, Try.ntmps6
  go_wp2_with fail
  refine HP0.out.mono ?_
  rintro e w1 ⟨AX, cX, rfl, hcX, hrX, hb⟩
  have HX := Lib.hid (And.intro hcX (show Kd.C (Kd.int .u8) w1 AX X.length X by rw [← HNX.out]; exact hrX))
  have HBa := Lib.hid hb
  clear hcX hrX hb HP0
  go_upto_if 25 with (fail)
  go_cut [] (fun wc => Hid (Below w.heap.size w wc))
  case first =>
    rcases HS0.out with ⟨rfl, h1, h2, h3⟩ | ⟨rfl, h1, h2⟩ | ⟨rfl, h1, h2⟩
    · have HR := Lib.hid h1
      have HXe := Lib.hid h2
      have hx1 : 1 ≤ nX := by rw [HNX.out, h2, putL_len]; omega
      have hx65 : nX ≤ 65000 := by rw [HNX.out, h2]; exact h3
      clear h1 h2 h3 HS0
      have HA1 := Lib.hid (All_yes X l AX cX nX HNX.out w1 HX.out.2 (by have := HX.out.1; have := HNX.out; omega) HB0.out (by have := HNX.out; omega) (by rw [HXe.out]; exact allF_put HR.out HW.out (by rw [← HXe.out, ← HNX.out]; exact hx65)) n0 HN.out.1)
      go_wp2_with fail
      refine HA1.out.mono ?_
      rintro e w2 ⟨AL, cL, rfl, hcL, hrL, hb⟩
      have HL := Lib.hid (And.intro hcL hrL)
      have HX2 := Lib.hid (Kd.C_below HX.out.2 hb)
      have HBb := Lib.hid (below_then HBa.out HBa.out.size hb)
      clear hcL hrL hb HA1
      obtain ⟨k, hk, hP⟩ := pick_any ct nX hx1 (by omega)
      have HP := Lib.hid hP
      clear hP
      go_wp2_with fail
      refine (HP.out w2).mono ?_
      rintro e w3 ⟨rfl, hd⟩
      have hb := hd.below
      have HX3 := Lib.hid (Kd.C_below HX2.out hb)
      have HL3 := Lib.hid (Kd.C_below HL.out.2 hb)
      have HBc := Lib.hid (below_then HBb.out HBb.out.size hb)
      clear hd hb HP HX2
      obtain ⟨i0, hi0, _, hz1, _⟩ := info_parts Low.info8
      have s1 := fun W => Low.cut_h (P := Try.prog) 22 5 Try.underlying22 hi0 hz1 AX nX cX k (by have := HX.out.1; omega) W
      have HA2 := Lib.hid (All_no (X.take k) AX cX k (by rw [List.length_take, ← HNX.out]; omega) w3 (by
        have := Low.take_C HX3.out k (by rw [← HNX.out]; omega)
        rw [List.length_take, ← HNX.out, Nat.min_eq_left (by omega)]
        exact this) (by rw [List.length_take]; have := HX.out.1; omega) (fun x hx => HB0.out x (List.mem_of_mem_take hx)) (by rw [List.length_take]; omega) (by rw [HXe.out]; exact allF_cut HR.out HW.out (putL_bytes HR.out HW.out) (by rw [← HXe.out, ← HNX.out]; exact hk)))
      go_wp2_with fail
      refine HA2.out.mono ?_
      rintro e w4 ⟨A4, c4, rfl, hb⟩
      have HX4 := Lib.hid (Kd.C_below HX3.out hb)
      have HL4 := Lib.hid (Kd.C_below HL3.out hb)
      have HBd := Lib.hid (below_then HBc.out HBc.out.size hb)
      clear hb HA2 HX3 HL3 s1 hi0 hz1
      have HCp := Lib.hid (show Calls Try.prog 25 #[.slice AX nX cX] w4 fun e w' => ∃ v0 : Value, e = .returned v0 ∧ Kd.R (Kd.int .u8) 5 w' w4.heap.size (fun _ => True) v0 X ∧ Below w4.heap.size w4 w' by
        rw [HNX.out]
        exact Low.copy_calls AX cX X w4 HX4.out (by have := HNX.out; omega))
      go_wp2_with fail
      refine HCp.out.mono ?_
      rintro e w5 ⟨v5, rfl, ho, hb⟩
      obtain ⟨A5, c5, hv5⟩ := Kd.R_slice ho
      rw [← HNX.out] at hv5
      subst hv5
      have HO5 := Lib.hid ho
      have HB5 := Lib.hid hb
      clear ho hb HCp HX4
      go_wp2_with (first | ((with_reducible refine gate_builtin (b := .append) (xs := #[.tmp 43, .tmp 46]) rfl ?_); at_builtin; refine Kd.R_append (Kd.int .u8) (w0 := w4) w4.heap.size rfl (.tmp 43) (.tmp 46) 22 5 (.int .u8 0) 1 rfl Try.underlying22 Low.info8 rfl (by decide) (by decide) (.slice A5 nX c5) X (ct % 256) [.int .u8 (ct % 256)] (fun _ => True) (fun _ => False) rfl rfl rfl (fun _ hk => hk.elim) (fun _ _ => trivial) HO5.out HB5.out HB5.out.size (by have := HNX.out; omega) ?_; intro v6 w6 ho hb _ _; have HO6 := Lib.hid ho; have HB6 := Lib.hid hb; clear ho hb; obtain ⟨A6, c6, hv6⟩ := Kd.R_slice HO6.out; obtain ⟨n6, hn6⟩ : ∃ n, n = (X ++ [ct % 256]).length := ⟨_, rfl⟩; rw [← hn6] at hv6; subst hv6; have HN6 := Lib.hid hn6; clear hn6) | fail)
      have HRd := Lib.hid (Kd.R_reads' HO6.out)
      have hlen6 : (X ++ [ct % 256]).length ≤ 65001 := by rw [List.length_append, ← HNX.out]; simp only [List.length_cons, List.length_nil]; omega
      refine (All_no (X ++ [ct % 256]) A6 c6 n6 HN6.out w6 HRd.out.2.2 (by rw [← HN6.out]; exact HRd.out.2.1) (bytes_append HB0.out (fun z hz => by rw [List.mem_singleton.1 hz]; omega)) (by omega) (by rw [HXe.out]; exact allF_more HR.out HW.out _)).mono ?_
      rintro e w7 ⟨A7, c7, rfl, hb⟩
      have hb46 := below_then HB6.out HB6.out.size hb
      have HL7 := Lib.hid (Kd.C_below HL4.out hb46)
      have HBe := Lib.hid (below_then HBd.out HBd.out.size hb46)
      clear hb hb46 HRd hlen6
      go_wp2_with fail
      refine (HSf.out w7 HBe.out AL cL HL7.out HL.out.1).mono ?_
      rintro e w8 ⟨rfl, hb⟩
      have HBf := Lib.hid (below_then HBe.out HBe.out.size hb)
      clear hb
      go_wp2_with fail
      refine (HRt.out w8 HBf.out).mono ?_
      rintro e w9 ⟨rfl, hb⟩
      rw [HR.out]
      have HBg := Lib.hid (below_then HBf.out HBf.out.size hb)
      clear hb
      go_wp2
      go_meet
      case rel => exact HBg
    · have HR := Lib.hid h1
      clear h1 h2 HS0
      go_wp2_with fail
      refine (HRt.out w1 HBa.out).mono ?_
      rintro e w2 ⟨rfl, hb⟩
      rw [HR.out]
      have HBb := Lib.hid (below_then HBa.out HBa.out.size hb)
      clear hb
      go_wp2
      go_meet
      case rel => exact HBb
    · have HR := Lib.hid h1
      clear h1 h2 HS0
      go_wp2_with fail
      refine (HRt.out w1 HBa.out).mono ?_
      rintro e w2 ⟨rfl, hb⟩
      rw [HR.out]
      have HBb := Lib.hid (below_then HBa.out HBa.out.size hb)
      clear hb
      go_wp2
      go_meet
      case rel => exact HBb
  case rest =>
    clear HS0 HX HBa HRt HSf HB0 HNX HW
    have HBa := hcut
    clear hcut
    obtain ⟨n1', hn1'⟩ : ∃ n, n = n1 := ⟨_, rfl⟩
    have HAl := Lib.hid (fun m (h : allF b = (m, 0)) k (hk : k = m.length) => All_yes b m A1 c1 n1 HN.out.2 wc (Kd.C_below HD.out.1 HBa.out) HD.out.2.1 HD.out.2.2.1 HD.out.2.2.2 h k hk)
    rcases allF_says b with hf | hf
    · obtain ⟨m, hm⟩ : ∃ m, allF b = (m, 0) := ⟨(allF b).1, by rw [← hf]⟩
      obtain ⟨h1, h2, h3, h4⟩ := allF_seg HD.out.2.2.1 hm
      have HM := Lib.hid (And.intro h1 (And.intro h2 h3))
      have HPm : Hid (putR m = (b, 0)) := Lib.hid (by unfold putR; rw [if_pos h1, h3, if_neg (by omega)])
      have hm64 := (rightL_mem h1).2
      obtain ⟨k, hk⟩ : ∃ k, k = m.length := ⟨_, rfl⟩
      have HA := Lib.hid (HAl.out m hm k hk)
      have HK := Lib.hid hk
      clear hf hm h1 h2 h3 h4 HAl hk
      go_wp2_with fail
      refine HA.out.mono ?_
      rintro e w2 ⟨AM, cM, rfl, hcM, hrM, hb⟩
      have HMr := Lib.hid (And.intro hcM hrM)
      have HBb := Lib.hid (below_then HBa.out HBa.out.size hb)
      clear hcM hrM hb HA
      have HPp := Lib.hid (Put_yes m b AM cM k HK.out w2 HMr.out.2 (by rw [← HK.out]; exact HMr.out.1) (by omega) HPm.out n1 HN.out.2)
      go_wp2_with fail
      refine HPp.out.mono ?_
      rintro e w3 ⟨AY, cY, rfl, hcY, hrY, hb⟩
      have HY := Lib.hid (And.intro hcY hrY)
      have HM3 := Lib.hid (Kd.C_below HMr.out.2 hb)
      have HBc := Lib.hid (below_then HBb.out HBb.out.size hb)
      clear hcY hrY hb HPp
      have HRm := Lib.hid (Right_calls m AM cM k HK.out w3 (by omega) HM3.out (by rw [← HK.out]; exact HMr.out.1))
      rw [HM.out.1] at HRm
      go_wp2_with fail
      refine HRm.out.mono ?_
      rintro e w4 ⟨rfl, hb⟩
      have HY4 := Lib.hid (Kd.C_below HY.out.2 hb)
      have HBd := Lib.hid (below_then HBc.out HBc.out.size hb)
      clear hb HRm
      have HSb := Lib.hid (Bytes_calls AY cY n1 b HN.out.2 A1 c1 n1 b HN.out.2 w4 HY4.out (Kd.C_below HD.out.1 HBd.out) HD.out.2.2.1 HD.out.2.2.1)
      rw [decide_eq_true rfl] at HSb
      go_wp2_with fail
      refine HSb.out.mono ?_
      rintro e w5 ⟨rfl, hb⟩
      have HBe := Lib.hid (below_then HBd.out HBd.out.size hb)
      clear hb HSb
      go_wp2_with fail
      refine (awake_calls w5).mono ?_
      rintro e w6 ⟨rfl, hb⟩
      have HBf := Lib.hid (below_then HBe.out HBe.out.size hb)
      clear hb
      go_wp2
      go_ret
      exact ⟨rfl, HBf.out⟩
    · have HA := Lib.hid (All_no b A1 c1 n1 HN.out.2 wc (Kd.C_below HD.out.1 HBa.out) HD.out.2.1 HD.out.2.2.1 HD.out.2.2.2 hf)
      clear hf HAl
      go_wp2_with fail
      refine HA.out.mono ?_
      rintro e w2 ⟨AM, cM, rfl, hb⟩
      have HBb := Lib.hid (below_then HBa.out HBa.out.size hb)
      clear hb HA
      go_wp2_with fail
      refine (awake_calls w2).mono ?_
      rintro e w6 ⟨rfl, hb⟩
      have HBf := Lib.hid (below_then HBb.out HBb.out.size hb)
      clear hb
      go_wp2
      go_ret
      exact ⟨rfl, HBf.out⟩
end Go.Proofs.Ytnhkbjihgepapaa.Fd

namespace Go.Proofs.Ytnhkbjihgepapaa.Fd
set_option linter.unusedVariables false
set_option linter.unusedSimpArgs false
open Go.RowKit Go.Proofs.YtnhkbjihgepapaaW.PrintWords Go.Proofs.YtnhkbjihgepapaaW.PrintLast Go.Proofs.YtnhkbjihgepapaaW.PrintMore Go.Proofs.Ytnhkbjihgepapaa.PF Go.Proofs.Ytnhkbjihgepapaa.Oct Go.Proofs.Ytnhkbjihgepapaa.Gen Go.Proofs.Ytnhkbjihgepapaa.EvK
attribute [local go_sem] max2_int min2_int max_two min_two max_three min_three max_four min_four
theorem copyF_calls (l : List Fl) (A : Option Addr) (c n : Nat) (hn : n = l.length) (w : World) (hr : Kd.C k30 w A l.length l) (hc : l.length ≤ c) (hl : l.length ≤ 1759218604441) (ho : ∀ x ∈ l, Cop x) :
    Calls Try.prog 14 #[.slice A n c] w fun e w' => ∃ A' c', e = .returned (.slice A' n c') ∧ n ≤ c' ∧ Kd.C k30 w' A' l.length l ∧ Below w.heap.size w w' := by
  subst hn
  obtain ⟨k, hk⟩ := Ev.the (copyF_ev l hl ho)
  refine (musterlow_CopyFields.calls k A c l l w hr hc hk).mono ?_
  rintro e w' ⟨v, rfl, ho, hb⟩
  obtain ⟨A', c', rfl, h1, h2⟩ := Kd.S_reads ho
  exact ⟨A', c', rfl, h1, h2, hb⟩
theorem PutX_calls (l : List Fl) (X : List Int) (ex : Int) (hp : putR l = (X, ex)) (k : Nat) (hk : k = X.length) (A : Option Addr) (c n : Nat) (hn : n = l.length) (w : World) (hr : Kd.C k30 w A l.length l) (hc : l.length ≤ c) (hl : l.length ≤ 9000000000000000) :
    Calls Try.prog 8 #[.slice A n c] w fun e w' => ∃ A' c', e = .returned (.tuple #[.slice A' k c', .int .i64 ex]) ∧ k ≤ c' ∧ Kd.C (Kd.int .u8) w' A' X.length X ∧ Below w.heap.size w w' := by
  subst hk
  refine (Put_calls l A c n hn w hr hc hl).mono ?_
  rw [hp]
  exact fun e w' h => h
theorem rPutX_calls (l : List Fl) (hm : ∀ x ∈ l, Mem9 x) (X : List Int) (ex : Int) (hp : putR l = (X, ex)) (k : Nat) (hk : k = X.length) (A : Option Addr) (c n : Nat) (hn : n = l.length) (w : World) (hr : Kd.C k30 w A l.length l) (hc : l.length ≤ c) :
    Calls Try.prog 15 #[.slice A n c] w fun e w' => ∃ A' c', e = .returned (.tuple #[.slice A' k c', .int .i64 ex]) ∧ k ≤ c' ∧ Kd.C (Kd.int .u8) w' A' X.length X ∧ Below w.heap.size w w' := by
  subst hk hn
  obtain ⟨k, hk⟩ := Ev.the (rPut_ev l hm)
  rw [hp] at hk
  refine (musterref04_Put.calls k A c l X ex w hr hc hk).mono ?_
  rintro e w' ⟨v, rfl, ho, hb⟩
  obtain ⟨A', c', rfl, h1, h2⟩ := Kd.R_reads ho
  exact ⟨A', c', rfl, h1, h2, hb⟩
theorem rRightX_calls (l : List Fl) (hm : ∀ x ∈ l, Mem9 x) (A : Option Addr) (c n : Nat) (hn : n = l.length) (w : World) (hr : Kd.C k30 w A l.length l) (hc : l.length ≤ c) : Calls Try.prog 18 #[.slice A n c] w fun e w' => e = .returned (.bool (rightL l)) ∧ Below w.heap.size w w' := by
  subst hn
  obtain ⟨k, hk⟩ := Ev.the (rRight_ev l hm)
  exact musterref04_Right.calls k A c l _ w hr hc hk
theorem sameV_calls (x : Fl) (hm : Mem9 x) (v u : Value) (w : World) (hv : FV w x v) (hu : FV w x u) : Calls Try.prog 19 #[v, u] w fun e w' => e = .returned (.bool true) ∧ Below w.heap.size w w' := by
  obtain ⟨A4, c4, A5, c5, rfl, h1, h2, h3, h4⟩ := hv
  obtain ⟨B4, d4, B5, d5, rfl, g1, g2, g3, g4⟩ := hu
  obtain ⟨k, hk⟩ := Ev.the (sameF_ev x x hm)
  rw [decide_eq_true rfl] at hk
  exact musterlow_SameField.calls k x.f0 x.f1 x.f2 x.f3 A4 c4 x.f4 A5 c5 x.f5 x.f0 x.f1 x.f2 x.f3 B4 d4 x.f4 B5 d5 x.f5 _ w h2 h1 h4 h3 g2 g1 g4 g3 hk
theorem getX_mem {l : List Fl} (hm : ∀ x ∈ l, Mem9 x) (t : Int) : Mem9 (getX l t) := by
  unfold getX
  cases h : l.find? (tagIs t) with
  | none => unfold Mem9 zF; exact ⟨by simp, by simp⟩
  | some x => exact hm x (List.mem_of_find?_eq_some h)
/-- A box of a field. -/
def FX (w : World) (g : Nat) (x : Fl) : Prop := ∃ C, w.heap[g]? = some (.cells C 30 (0, 0)) ∧ C.size = 6 ∧ FV w x (.agg C)
theorem FX.below {w w' : World} {g : Nat} {x : Fl} (h : FX w g x) (hb : Below w.heap.size w w') : FX w' g x := by
  obtain ⟨C, h1, h2, h3⟩ := h
  exact ⟨C, blk_below h1 hb, h2, h3.below hb⟩
theorem FX.mk {w : World} {g : Nat} {x : Fl} {A4 : Option Addr} {n4 c4 : Nat} {A5 : Option Addr} {n5 c5 : Nat} (h : w.heap[g]? = some (.cells #[.int .u8 x.f0, .int .u8 x.f1, .int .i64 x.f2, .string x.f3, .slice A4 n4 c4, .slice A5 n5 c5] 30 (0, 0))) (h4 : n4 = x.f4.length) (h5 : n5 = x.f5.length) (hc4 : n4 ≤ c4) (hr4 : Kd.C (Kd.int .i64) w A4 x.f4.length x.f4) (hc5 : n5 ≤ c5) (hr5 : Kd.C Kd.string w A5 x.f5.length x.f5) : FX w g x := by
  subst h4 h5
  exact ⟨_, h, rfl, A4, c4, A5, c5, rfl, hc4, hr4, hc5, hr5⟩
set_option maxRecDepth 100000 in
set_option maxHeartbeats 8000000 in
theorem tells_law (l : List Fl) (A0 : Option Addr) (c0 : Nat) (t : Int) (w : World) (hr0 : Kd.C k30 w A0 l.length l) (hc0 : l.length ≤ c0) (hl : l.length ≤ 1759218604441) (wl : ∀ x ∈ l, Wf x ∧ Mem9 x) (hco : ∀ x ∈ l, Cop x) (hok : okGet l = true) :
    Calls Try.prog 4 #[.slice A0 l.length c0, .int .u8 t] w fun e w' => e = .returned (.bool true) ∧ Below w.heap.size w w' := by
  obtain ⟨n0, hn0⟩ : ∃ n, n = l.length := ⟨_, rfl⟩
  obtain ⟨X, ex, hp⟩ : ∃ X ex, putR l = (X, ex) := ⟨_, _, rfl⟩
  obtain ⟨nX, hnX⟩ : ∃ n, n = X.length := ⟨_, rfl⟩
  obtain ⟨x, hx⟩ : ∃ x, x = getX l t := ⟨_, rfl⟩
  obtain ⟨bx, hbx⟩ : ∃ b, b = getB l t := ⟨_, rfl⟩
  obtain ⟨br, hbr⟩ : ∃ b, b = rightL l := ⟨_, rfl⟩
  have hm := fun x hx => (wl x hx).2
  have HCp := Lib.hid (copyF_calls l A0 c0 n0 hn0 w hr0 hc0 hl hco)
  have HP := Lib.hid (fun A c W hr hc => PutX_calls l X ex hp nX hnX A c n0 hn0 W hr hc (by omega))
  have HPr := Lib.hid (fun W (hb : Below w.heap.size w W) => rPutX_calls l hm X ex hp nX hnX A0 c0 n0 hn0 W (Kd.C_below hr0 hb) hc0)
  have HG := Lib.hid (fun A c W hr hc => getF_calls l A c n0 hn0 t W hr hc hok)
  have HGr := Lib.hid (fun W (hb : Below w.heap.size w W) => refGet_calls l A0 c0 n0 hn0 t W (Kd.C_below hr0 hb) hc0)
  have HRt := Lib.hid (fun A c W hr hc => Right_calls l A c n0 hn0 W (by omega) hr hc)
  have HRr := Lib.hid (fun W (hb : Below w.heap.size w W) => rRightX_calls l hm A0 c0 n0 hn0 W (Kd.C_below hr0 hb) hc0)
  have HSf := Lib.hid (fun W (hb : Below w.heap.size w W) (A : Option Addr) (c : Nat) (hr : Kd.C k30 W A l.length l) (hc : l.length ≤ c) => show Calls Try.prog 20 #[.slice A n0 c, .slice A0 n0 c0] W fun e w' => e = .returned (.bool true) ∧ Below W.heap.size W w' by
    have h := Same_calls l l A c n0 hn0 A0 c0 n0 hn0 W hr hc (Kd.C_below hr0 hb) hc0 (by omega) hm
    rw [decide_eq_true rfl] at h
    exact h)
  have HSx := Lib.hid (getX_mem hm t)
  have HBX : Hid (Bts X) := Lib.hid (by
    have := putR_bytes (l := l) (fun x hx => (wl x hx).1)
    rw [hp] at this
    exact this)
  rw [← hx, ← hbx] at HG HGr
  rw [← hx] at HSx
  rw [← hbr] at HRt HRr
  have HN := Lib.hid (And.intro hn0 hnX)
  rw [← hn0]
  clear hr0 hc0 hl wl hco hok hm hp hx hbx hbr hn0 hnX
  go_enter Try.func4, Try.ntmps4
  go_wp2_with fail
  refine HCp.out.mono ?_
  rintro e w1 ⟨AL, cL, rfl, hcL, hrL, hb⟩
  have HcL : Hid (l.length ≤ cL) := Lib.hid (by rw [← HN.out.1]; exact hcL)
  have HL := Lib.hid hrL
  have HBa := Lib.hid hb
  clear hcL hrL hb HCp
  go_wp2_with fail
  refine (HP.out AL cL w1 HL.out HcL.out).mono ?_
  rintro e w2 ⟨AX, cX, rfl, hcX, hrX, hb⟩
  have HX := Lib.hid hrX
  have HL2 := Lib.hid (Kd.C_below HL.out hb)
  have HBb := Lib.hid (below_then HBa.out HBa.out.size hb)
  clear hcX hrX hb HP HL HBa
  go_wp2_with fail
  refine (HPr.out w2 HBb.out).mono ?_
  rintro e w3 ⟨AY, cY, rfl, hcY, hrY, hb⟩
  have HY := Lib.hid hrY
  have HX3 := Lib.hid (Kd.C_below HX.out hb)
  have HL3 := Lib.hid (Kd.C_below HL2.out hb)
  have HBc := Lib.hid (below_then HBb.out HBb.out.size hb)
  clear hcY hrY hb HPr HX HL2 HBb
  go_wp2_with fail
  refine (HG.out AL cL w3 HL3.out HcL.out).mono ?_
  rintro e w4 ⟨v, rfl, hv, hb⟩
  obtain ⟨A4, c4, A5, c5, rfl, hc4, hr4, hc5, hr5⟩ := hv
  obtain ⟨n4, hn4⟩ : ∃ m, m = x.f4.length := ⟨_, rfl⟩
  obtain ⟨n5, hn5⟩ : ∃ m, m = x.f5.length := ⟨_, rfl⟩
  have HV4 := Lib.hid (And.intro (And.intro hc4 hr4) (And.intro hc5 hr5))
  rw [← hn4, ← hn5]
  have HN4 := Lib.hid (And.intro hn4 hn5)
  have HY4 := Lib.hid (Kd.C_below HY.out hb)
  have HX4 := Lib.hid (Kd.C_below HX3.out hb)
  have HL4 := Lib.hid (Kd.C_below HL3.out hb)
  have HBd := Lib.hid (below_then HBc.out HBc.out.size hb)
  clear hb HG HX3 HY HL3 HBc hc4 hr4 hc5 hr5 hn4 hn5
  have HZ := Lib.hid (heap_alloc_new w4 (.cells #[.int .u8 0, .int .u8 0, .int .i64 0, .string ⟨#[]⟩, .slice none 0 0, .slice none 0 0] 30))
  go_upto_region 5 with (first | ((with_reducible refine gate_store (t := 30) (p := 10) rfl ?_); refine wl_store (old := #[.int .u8 0, .int .u8 0, .int .i64 0, .string ⟨#[]⟩, .slice none 0 0, .slice none 0 0]) (cells := #[.int .u8 x.f0, .int .u8 x.f1, .int .i64 x.f2, .string x.f3, .slice A4 n4 c4, .slice A5 n5 c5]) 30 (.tmp 10) (.tmp 30) rfl rfl rfl rfl HZ.out infoFg rfl (by simp [Value.oneCell']) ?_) | fail)
  have hz5 := setRow_heap _ _ _ #[.int .u8 x.f0, .int .u8 x.f1, .int .i64 x.f2, .string x.f3, .slice A4 n4 c4, .slice A5 n5 c5] _ _ HZ.out
  have hb5 : Below w4.heap.size w4 _ := below_setRow (below_alloc (Below.refl w4.heap.size w4) (.cells #[.int .u8 0, .int .u8 0, .int .i64 0, .string ⟨#[]⟩, .slice none 0 0, .slice none 0 0] 30)) (Nat.le_refl _) #[.int .u8 x.f0, .int .u8 x.f1, .int .i64 x.f2, .string x.f3, .slice A4 n4 c4, .slice A5 n5 c5]
  have HZ5 := Lib.hid hz5
  have HFX5 := Lib.hid (FX.mk hz5 HN4.out.1 HN4.out.2 (by rw [HN4.out.1]; exact HV4.out.1.1) (Kd.C_below HV4.out.1.2 hb5) (by rw [HN4.out.2]; exact HV4.out.2.1) (Kd.C_below HV4.out.2.2 hb5))
  have HY5 := Lib.hid (Kd.C_below HY4.out hb5)
  have HX5 := Lib.hid (Kd.C_below HX4.out hb5)
  have HL5 := Lib.hid (Kd.C_below HL4.out hb5)
  have HBe := Lib.hid (below_then HBd.out HBd.out.size hb5)
  clear hz5 hb5 HV4 HN4 HZ HY4 HX4 HL4 HBd
  generalize World.setRow _ _ _ = W5 at HZ5 HFX5 HY5 HX5 HL5 HBe ⊢
  obtain ⟨g1, hg1⟩ : ∃ g, g = w4.heap.size := ⟨_, rfl⟩
  rw [← hg1] at HFX5 HZ5 ⊢
  clear hg1
  go_wp2_with fail
  refine (HGr.out W5 HBe.out).mono ?_
  rintro e w6 ⟨v, rfl, hv, hb⟩
  obtain ⟨B4, d4, B5, d5, rfl, hd4, hr4, hd5, hr5⟩ := hv
  obtain ⟨m4, hm4⟩ : ∃ m, m = x.f4.length := ⟨_, rfl⟩
  obtain ⟨m5, hm5⟩ : ∃ m, m = x.f5.length := ⟨_, rfl⟩
  have HV6 := Lib.hid (And.intro (And.intro hd4 hr4) (And.intro hd5 hr5))
  rw [← hm4, ← hm5]
  have HM4 := Lib.hid (And.intro hm4 hm5)
  have HFX6 := Lib.hid (HFX5.out.below hb)
  have HY6 := Lib.hid (Kd.C_below HY5.out hb)
  have HX6 := Lib.hid (Kd.C_below HX5.out hb)
  have HL6 := Lib.hid (Kd.C_below HL5.out hb)
  have HBf := Lib.hid (below_then HBe.out HBe.out.size hb)
  clear hb HGr HFX5 HZ5 HY5 HX5 HL5 HBe hd4 hr4 hd5 hr5 hm4 hm5
  have HZ := Lib.hid (heap_alloc_new w6 (.cells #[.int .u8 0, .int .u8 0, .int .i64 0, .string ⟨#[]⟩, .slice none 0 0, .slice none 0 0] 30))
  go_upto_region 6 with (first | ((with_reducible refine gate_store (t := 30) (p := 12) rfl ?_); refine wl_store (old := #[.int .u8 0, .int .u8 0, .int .i64 0, .string ⟨#[]⟩, .slice none 0 0, .slice none 0 0]) (cells := #[.int .u8 x.f0, .int .u8 x.f1, .int .i64 x.f2, .string x.f3, .slice B4 m4 d4, .slice B5 m5 d5]) 30 (.tmp 12) (.tmp 36) rfl rfl rfl rfl HZ.out infoFg rfl (by simp [Value.oneCell']) ?_) | fail)
  have hz7 := setRow_heap _ _ _ #[.int .u8 x.f0, .int .u8 x.f1, .int .i64 x.f2, .string x.f3, .slice B4 m4 d4, .slice B5 m5 d5] _ _ HZ.out
  have hb7 : Below w6.heap.size w6 _ := below_setRow (below_alloc (Below.refl w6.heap.size w6) (.cells #[.int .u8 0, .int .u8 0, .int .i64 0, .string ⟨#[]⟩, .slice none 0 0, .slice none 0 0] 30)) (Nat.le_refl _) #[.int .u8 x.f0, .int .u8 x.f1, .int .i64 x.f2, .string x.f3, .slice B4 m4 d4, .slice B5 m5 d5]
  have HFY7 := Lib.hid (FX.mk hz7 HM4.out.1 HM4.out.2 (by rw [HM4.out.1]; exact HV6.out.1.1) (Kd.C_below HV6.out.1.2 hb7) (by rw [HM4.out.2]; exact HV6.out.2.1) (Kd.C_below HV6.out.2.2 hb7))
  have HFX7 := Lib.hid (HFX6.out.below hb7)
  have HY7 := Lib.hid (Kd.C_below HY6.out hb7)
  have HX7 := Lib.hid (Kd.C_below HX6.out hb7)
  have HL7 := Lib.hid (Kd.C_below HL6.out hb7)
  have HBg := Lib.hid (below_then HBf.out HBf.out.size hb7)
  clear hz7 hb7 HV6 HM4 HZ HY6 HX6 HL6 HBf HFX6
  generalize World.setRow _ _ _ = W7 at HFY7 HFX7 HY7 HX7 HL7 HBg ⊢
  obtain ⟨g2, hg2⟩ : ∃ g, g = w6.heap.size := ⟨_, rfl⟩
  rw [← hg2] at HFY7 ⊢
  clear hg2
  go_wp2_with fail
  refine (HRt.out AL cL W7 HL7.out HcL.out).mono ?_
  rintro e w8 ⟨rfl, hb⟩
  have HFX8 := Lib.hid (HFX7.out.below hb)
  have HFY8 := Lib.hid (HFY7.out.below hb)
  have HY8 := Lib.hid (Kd.C_below HY7.out hb)
  have HX8 := Lib.hid (Kd.C_below HX7.out hb)
  have HL8 := Lib.hid (Kd.C_below HL7.out hb)
  have HBh := Lib.hid (below_then HBg.out HBg.out.size hb)
  clear hb HRt HFY7 HFX7 HY7 HX7 HL7 HBg
  go_wp2_with fail
  refine (HRr.out w8 HBh.out).mono ?_
  rintro e w9 ⟨rfl, hb⟩
  have HFX9 := Lib.hid (HFX8.out.below hb)
  have HFY9 := Lib.hid (HFY8.out.below hb)
  have HY9 := Lib.hid (Kd.C_below HY8.out hb)
  have HX9 := Lib.hid (Kd.C_below HX8.out hb)
  have HL9 := Lib.hid (Kd.C_below HL8.out hb)
  have HBi := Lib.hid (below_then HBh.out HBh.out.size hb)
  clear hb HRr HFY8 HFX8 HY8 HX8 HL8 HBh
  go_wp2_with fail
  have HSb := Lib.hid (Bytes_calls AX cX nX X HN.out.2 AY cY nX X HN.out.2 w9 HX9.out HY9.out HBX.out HBX.out)
  rw [decide_eq_true rfl] at HSb
  refine HSb.out.mono ?_
  rintro e w10 ⟨rfl, hb⟩
  obtain ⟨C, hC, hCs, hCv⟩ := HFX9.out.below hb
  obtain ⟨D, hD, hDs, hDv⟩ := HFY9.out.below hb
  have HLC := Lib.hid (And.intro (fg_ld hC hCs) (fg_ld hD hDs))
  have HSv := Lib.hid (sameV_calls x HSx.out (.agg C) (.agg D) w10 hCv hDv)
  have HL10 := Lib.hid (Kd.C_below HL9.out hb)
  have HBj := Lib.hid (below_then HBi.out HBi.out.size hb)
  clear hb HSb hC hCs hCv hD hDs hDv HFX9 HFY9 HX9 HY9 HL9 HBi
  go_wp2_with (first | ((with_reducible refine gate_ (.load 30 (.tmp 10)) rfl ?_); (refine gate_guard (by rfl) ?_; dsimp only); refine wl_load 30 (.tmp 10) rfl rfl _ _ rfl HLC.out.1 ?_) | ((with_reducible refine gate_ (.load 30 (.tmp 12)) rfl ?_); (refine gate_guard (by rfl) ?_; dsimp only); refine wl_load 30 (.tmp 12) rfl rfl _ _ rfl HLC.out.2 ?_) | fail)
  refine HSv.out.mono ?_
  rintro e w11 ⟨rfl, hb⟩
  have HL11 := Lib.hid (Kd.C_below HL10.out hb)
  have HBk := Lib.hid (below_then HBj.out HBj.out.size hb)
  clear hb HSv HL10 HBj
  go_wp2_with fail
  refine (HSf.out w11 HBk.out AL cL HL11.out HcL.out).mono ?_
  rintro e w12 ⟨rfl, hb⟩
  have HBl := Lib.hid (below_then HBk.out HBk.out.size hb)
  clear hb HSf HBk
  go_wp2_with fail
  refine (awake_calls w12).mono ?_
  rintro e w13 ⟨rfl, hb⟩
  have HBm := Lib.hid (below_then HBl.out HBl.out.size hb)
  clear hb HBl
  go_wp2
  go_ret
  exact ⟨rfl, HBm.out⟩
end Go.Proofs.Ytnhkbjihgepapaa.Fd

namespace Go.Proofs.Ytnhkbjihgepapaa.PF.FieldTellsOpen
set_option linter.unusedVariables false
set_option linter.unusedSimpArgs false
open Go.RowKit Go.Proofs.YtnhkbjihgepapaaW.PrintWords Go.Proofs.Ytnhkbjihgepapaa.Open Go.Proofs.Ytnhkbjihgepapaa.PF
def g30 (x : S30) : Prop := (Lit.int .u8 x.f0).wf = true ∧ (Lit.int .u8 x.f1).wf = true ∧ (Lit.int .i64 x.f2).wf = true ∧ x.f3.size ≤ 140737488351232 ∧ (x.f4.length * 8 ≤ 140737488351232 ∧ ∀ yxf4 ∈ x.f4, (Lit.int .i64 yxf4).wf = true) ∧ (x.f5.length * 16 ≤ 140737488351232 ∧ ∀ yxf5 ∈ x.f5, yxf5.size ≤ 140737488351232)
instance : Inhabited S30 := ⟨z30⟩
theorem o30 : Opens Try.prog g30 k30 30 := o_iso (fun x : S30 => (x.f0, x.f1, x.f2, x.f3, x.f4, x.f5)) (fun a => ⟨a.1, a.2.1, a.2.2.1, a.2.2.2.1, a.2.2.2.2.1, a.2.2.2.2.2⟩) (fun _ => rfl) (o_struct Try.underlying30 (by kernel_rfl) _ rfl (o_field rfl (o_int Try.underlying5 (by kernel_rfl)) (o_field rfl (o_int Try.underlying26 (by kernel_rfl)) (o_field rfl (o_int Try.underlying2 (by kernel_rfl)) (o_field rfl (o_string Try.underlying9 (by kernel_rfl)) (o_field rfl (o_slice Try.underlying27 (by kernel_rfl) 8 (by kernel_rfl) (o_int Try.underlying2 (by kernel_rfl))) (o_last rfl (o_slice Try.underlying28 (by kernel_rfl) 16 (by kernel_rfl) (o_string Try.underlying9 (by kernel_rfl))))))))))
end Go.Proofs.Ytnhkbjihgepapaa.PF.FieldTellsOpen

namespace Go.Proofs.Ytnhkbjihgepapaa.fieldTells
open Go.ChangeShapes Go.WideShapes Go.ChangeAt Go.RowKit Go.Proofs.Ytnhkbjihgepapaa.Open Go.Proofs.Ytnhkbjihgepapaa.PF.FieldTellsOpen

open Go.ChangeMaps (open_string shut_string)
set_option linter.unusedVariables false
theorem own : ownKnob Try.prog.godebug = none := by kernel_rfl
theorem laidOut : laidOutB Try.prog = true := by kernel_rfl
set_option maxRecDepth 100000 in
theorem lifted (os : Os) (started : os.Started) (H : Type) (enc : TypeId × Value → H) :
    ReturnsInHanded {} Try.checked os 4 .any (Rows.fieldTellsSpec.pre6 enc Try.prog Try.f4 Rows.fieldTellsRow.domain false) (Rows.fieldTellsSpec.post enc Try.prog Try.f4 false true false false) := by
  refine returnsInHanded_of_change_sized (C := Try.checked) own started (by kernel_rfl) Try.func4
    (ChangeSpec.witness6 (enc := enc) (C := Try.checked) false ⟨#[], #[.slice none 0 0, .int .u8 0], []⟩ 8 (by kernel_rfl) (by kernel_rfl) (by kernel_rfl) (by kernel_rfl)) ?_
  intro W base args ds gs before hval0 hW hcnd hsz0 _
  have hsz : (DataW.weightsEach Try.prog (Try.f4.params.toList ++ Rows.fieldTellsSpec.plain.varTypes Try.prog) (ds ++ gs)).all (· ≤ reachBytes) = true := hsz0
  have hval : ∀ (j : Nat) t v, Try.f4.params[j]? = some t → args[j]? = some v → Value.okWide Try.prog W .any base t v := hval0
  have hW' := hW
  obtain ⟨p, q, hA0, hV, rfl, hfz, hnd⟩ := hW
  have hA : DataW.TrodAll enc Try.prog W 0 (fun _ => true) true Try.f4.params.toList args.toList ds p := hA0
  rw [Try.params4] at hA hval hsz
  obtain ⟨v0, vs0, d0, ds0, p0, q0, hargs, rfl, rfl, h0, r0⟩ := trodAll_cons hA
  obtain ⟨v1, vs1, d1, ds1, p1, q1, rfl, rfl, rfl, h1, r1⟩ := trodAll_cons r0
  obtain ⟨rfl, rfl, rfl⟩ := trodAll_nil r1
  obtain rfl : args = #[v0, v1] := by cases args; simp_all
  obtain ⟨rfl, rfl⟩ := trodVars_none hV
  have k0 := h0
  have lt0 : ∀ x ∈ p0, x.block < W.heap.size := by obtain ⟨m, hm⟩ := k0; exact DataW.trod_lt m _ _ _ hm
  obtain ⟨x0, K0, w0⟩ := Opens.arg (o_slice Try.underlying31 (by kernel_rfl) 80 (by kernel_rfl) o30) hsz (j := 0) rfl rfl h0
  obtain ⟨a0, len0, cap0, rfl⟩ := okWide_slice Try.underlying31 (hval 0 31 v0 rfl rfl)
  obtain ⟨A0, c0, e0, hc0, hr0⟩ := K0
  simp [Value.cells] at e0
  obtain ⟨rfl, rfl, rfl⟩ := e0
  have k1 := h1
  have lt1 : ∀ x ∈ p1, x.block < W.heap.size := by obtain ⟨m, hm⟩ := k1; exact DataW.trod_lt m _ _ _ hm
  obtain ⟨x1, K1, w1⟩ := Opens.arg (o_int Try.underlying5 (by kernel_rfl)) hsz (j := 1) rfl rfl h1
  obtain ⟨a1, rfl, rfl, rfl, _⟩ := open_int Try.underlying5 (hval 1 5 v1 rfl rfl) h1
  obtain rfl : x1 = a1 := (Value.int.inj (List.cons.inj (show [Value.int .u8 a1] = [Value.int .u8 x1] from K1)).1).2.symm
  clear hA0 hval0 hsz0 hsz
  have hok0 : ∀ x ∈ x0, Fd.Wf x ∧ Fd.Mem9 x := fun x hx => by
    obtain ⟨h0, h1, h2, h3, ⟨h4, h5⟩, h6, h7⟩ := w0.2 x hx
    exact ⟨⟨Low.wf_u8 h0, Low.wf_i64 h2, fun n hn => Low.wf_i64 (h5 n hn)⟩, by omega, by omega⟩
  have hco0 : (∀ x ∈ x0, Fd.Cop x) ∧ Fd.okGet x0 = true := ⟨fun x hx => by
    obtain ⟨h0, h1, h2, h3, ⟨h4, h5⟩, h6, h7⟩ := w0.2 x hx
    exact ⟨by omega, by omega⟩, List.all_eq_true.2 fun x hx => by
    obtain ⟨h0, h1, h2, h3, ⟨h4, h5⟩, h6, h7⟩ := w0.2 x hx
    rw [Bool.and_eq_true]
    exact ⟨decide_eq_true (by omega), decide_eq_true (by omega)⟩⟩
  refine (Fd.tells_law x0 _ _ x1 W hr0 hc0 (by omega) (fun x hx => hok0 x hx) hco0.1 hco0.2).mono fun e W' ⟨he, bel0⟩ => ?_
  have bel : Below W.heap.size W W' := bel0
  subst he
  exact ⟨_, rfl, _, _, _, [], _, [], hW', trodAll_mk1 (shut_bool Try.underlying4 _), (trodAll_cons_mk (Below.trod laidOut (by kernel_rfl) (of_decide_eq_true (by kernel_rfl)) k0 bel lt0) (trodAll_cons_mk (Below.trod laidOut (by kernel_rfl) (of_decide_eq_true (by kernel_rfl)) k1 bel lt1) trodAll_mk0)), rfl, bel.frame _, fun h => by cases h⟩
theorem over : Rows.fieldTellsRow.holds Try.pinned (OpenSpec.ofChange Rows.fieldTellsSpec) :=
  OpenClaim.holds_of_wide 4 Try.f4 rfl rfl rfl rfl rfl rfl rfl ⟨rfl, rfl, rfl, rfl, rfl⟩ rfl rfl rfl rfl rfl (by kernel_rfl) Try.func4 (by kernel_rfl)
    (of_decide_eq_true (by kernel_rfl)) (by unfold Func.isWrapper; first | (rw [if_pos (by decide +kernel)]; kernel_rfl) | (rw [if_neg (by decide +kernel)]; exact ⟨rfl, rfl⟩))
    (fun os started H enc _ => lifted os started H enc)
theorem proved : Rows.FieldTellsSaid := over
#print axioms proved
end Go.Proofs.Ytnhkbjihgepapaa.fieldTells
namespace Go.Proofs.Ytnhkbjihgepapaa
/-- The row, under a short name, for the claim. -/
theorem fieldTells_holds : Rows.FieldTellsSaid := fieldTells.proved
end Go.Proofs.Ytnhkbjihgepapaa
