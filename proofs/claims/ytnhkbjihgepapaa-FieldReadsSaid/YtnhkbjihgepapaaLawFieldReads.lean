/- For any bytes All answers as the document defines; what is handed in stays. (The row.) -/
import Derived.Test.YtnhkbjihgepapaaRows
import Derived.WalkKit
import Derived.ProofKit
import Derived.OpenShut
import Derived.ShutString
import Derived.ChangeOld
import Derived.Below
import Derived.SizedLaws
import Derived.Test.YtnhkbjihgepapaaOpen
import Derived.Test.YtnhkbjihgepapaaPFx0


import Derived.Test.YtnhkbjihgepapaaFdOne

import Derived.Test.YtnhkbjihgepapaaFdPutE
import Derived.Test.YtnhkbjihgepapaaFdGet

import Derived.Test.YtnhkbjihgepapaaPFx18

import Derived.Test.YtnhkbjihgepapaaPFx4


namespace Go.Proofs.Ytnhkbjihgepapaa.PF
set_option linter.unusedVariables false
set_option linter.unusedSimpArgs false
open Go.RowKit Go.Proofs.YtnhkbjihgepapaaW.PrintWords Go.Proofs.YtnhkbjihgepapaaW.PrintLast Go.Proofs.YtnhkbjihgepapaaW.PrintMore
attribute [local go_sem] max2_int min2_int max_two min_two max_three min_three max_four min_four   -- for this text's walks alone
set_option linter.unusedVariables false
set_option linter.unusedSimpArgs false

/-! ### musterref04_one: function 45 -/
def musterref04_one.f (l0 : List Int) (a1 : Int) : Option (Int × Int × Int × ByteArray × List Int × List ByteArray × Int × Bool) := if Fd.okOne l0 a1 = true then some ((Fd.oneR l0 a1).1.f0, (Fd.oneR l0 a1).1.f1, (Fd.oneR l0 a1).1.f2, (Fd.oneR l0 a1).1.f3, (Fd.oneR l0 a1).1.f4, (Fd.oneR l0 a1).1.f5, (Fd.oneR l0 a1).2.1, (Fd.oneR l0 a1).2.2) else none
theorem musterref04_one.calls (A0 : Option Addr) (c0 : Nat) (l0 : List Int) (a1 : Int) (r1 : Int) (r2 : Int) (r3 : Int) (r4 : ByteArray) (r5 : List Int) (r6 : List ByteArray) (r7 : Int) (r8 : Bool) (w : World) (hr0 : Kd.C (Kd.int .u8) w A0 l0.length l0) (hc0 : l0.length ≤ c0) (h : musterref04_one.f l0 a1 = some (r1, r2, r3, r4, r5, r6, r7, r8)) :
    Calls Try.prog 45 #[.slice A0 l0.length c0, .int .i64 a1] w fun e w' => ∃ v4_ v5_ : Value, e = .returned (.tuple #[.agg #[.int .u8 r1, .int .u8 r2, .int .i64 r3, .string r4, v4_, v5_], .int .i64 r7, .bool r8]) ∧ Kd.R (Kd.int .i64) 2 w' w.heap.size (fun _ => True) v4_ r5 ∧ Kd.R Kd.string 9 w' w.heap.size (fun _ => True) v5_ r6 ∧ Below w.heap.size w w' := by
  unfold musterref04_one.f at h
  split at h
  · rename_i ho
    have hh := Option.some.inj h
    simp only [Prod.mk.injEq] at hh
    obtain ⟨rfl, rfl, rfl, rfl, rfl, rfl, rfl, rfl⟩ := hh
    exact Fd.rone_ok A0 c0 l0 a1 w hr0 hc0 ho
  · cases h

end Go.Proofs.Ytnhkbjihgepapaa.PF

namespace Go.Proofs.Ytnhkbjihgepapaa.PF
set_option linter.unusedVariables false
set_option linter.unusedSimpArgs false
open Go.RowKit Go.Proofs.YtnhkbjihgepapaaW.PrintWords Go.Proofs.YtnhkbjihgepapaaW.PrintLast Go.Proofs.YtnhkbjihgepapaaW.PrintMore
attribute [local go_sem] max2_int min2_int max_two min_two max_three min_three max_four min_four   -- for this text's walks alone
set_option linter.unusedVariables false
set_option linter.unusedSimpArgs false

/-! ### musterref04_All: function 22 -/
def musterref04_All.l0 : Nat → List Int → List (S30) → Int → Int → Option ((List (S30)) × Int)
  | 0, _, _, _, _ => none
  | k + 1, x0, x4, x5, x6 => if 0 < (x0.length : Int) then (if x6 < (wrap64 (rd x0 0)) then ((musterref04_one.f x0 x5).bind fun bt241 => (if bt241.2.2.2.2.2.2.2 = true then (if x4.length < 1759218604441 then (musterref04_All.l0 k x0 (x4 ++ [(⟨bt241.1, bt241.2.1, bt241.2.2.1, bt241.2.2.2.1, bt241.2.2.2.2.1, bt241.2.2.2.2.2.1⟩ : S30)]) bt241.2.2.2.2.2.2.1 (wrap64 (x6 + 1))) else (none)) else (some (([] : List (S30)), 40)))) else ((musterref04_Put.f k x4).bind fun bt257 => (if bt257.2 = 0 then ((musterlow_SameBytes.f bt257.1 x0).bind fun t261 => (if t261 = true then (some (x4, 0)) else (some (([] : List (S30)), 40)))) else (some (([] : List (S30)), 40))))) else (none)
def musterref04_All.f (k : Nat) (l0 : List Int) : Option ((List (S30)) × Int) := if (l0.length : Int) = 0 then (some (([] : List (S30)), 40)) else (musterref04_All.l0 k l0 ([] : List (S30)) 1 0)
theorem musterref04_All.mono_l : ∀ k, (∀ y0 y1 y2 y3, LeO (musterref04_All.l0 k y0 y1 y2 y3) (musterref04_All.l0 (k + 1) y0 y1 y2 y3))
  | 0 => fun _ _ _ _ r h => by simp [musterref04_All.l0] at h
  | k + 1 => by
    have ih0 := musterref04_All.mono_l k
    · intro y0 y1 y2 y3
      unfold musterref04_All.l0
      repeat' first
      | (with_reducible exact ih0 _ _ _ _)
      | (with_reducible exact musterref04_Put.mono _ _)
      | (with_reducible exact LeO.refl _)
      | (with_reducible exact LeO.none _)
      | (with_reducible refine LeO.ite ?_ ?_)
      | (with_reducible refine LeO.bind ?_ (fun _ => ?_))
      | exact ih0 _ _ _ _
      | exact musterref04_Put.mono _ _
      | exact LeO.none _
      | refine LeO.ite ?_ ?_
      | refine LeO.bind ?_ (fun _ => ?_)
theorem musterref04_All.mono : ∀ a0 k, LeO (musterref04_All.f k a0) (musterref04_All.f (k + 1) a0) := by
  intro a0 k
  have ih0 := musterref04_All.mono_l k
  unfold musterref04_All.f
  repeat' first
      | (with_reducible exact ih0 _ _ _ _)
      | (with_reducible exact musterref04_Put.mono _ _)
      | (with_reducible exact LeO.refl _)
      | (with_reducible exact LeO.none _)
      | (with_reducible refine LeO.ite ?_ ?_)
      | (with_reducible refine LeO.bind ?_ (fun _ => ?_))
      | exact ih0 _ _ _ _
      | exact musterref04_Put.mono _ _
      | exact LeO.none _
      | refine LeO.ite ?_ ?_
      | refine LeO.bind ?_ (fun _ => ?_)
set_option maxHeartbeats 8000000 in
set_option maxRecDepth 100000 in
theorem musterref04_All.calls (k : Nat) (A0 : Option Addr) (c0 : Nat) (l0 : List Int) (r1 : List (S30)) (r2 : Int) (w : World) (hr0 : Kd.C (Kd.int .u8) w A0 l0.length l0) (hc0 : l0.length ≤ c0) (h : musterref04_All.f k l0 = some (r1, r2)) :
    Calls Try.prog 22 #[.slice A0 l0.length c0] w fun e w' => ∃ v0_ : Value, e = .returned (.tuple #[v0_, .int .i64 r2]) ∧ Kd.S k30 30 w' w.heap.size (fun _ => True) v0_ r1 ∧ Below w.heap.size w w' := by
  have hu30 := Try.underlying30
  have HR0 := Aside0.mk hr0
  have HC0 := Aside0.mk hc0
  clear hr0 hc0
  have HB := Aside0.mk (Below.refl w.heap.size w)
  have H : (if (l0.length : Int) = 0 then (some (([] : List (S30)), 40)) else (musterref04_All.l0 k l0 ([] : List (S30)) 1 0)) = some (r1, r2) := h
  clear h
  by_cases c2 : (l0.length : Int) = 0
  · rw [if_pos c2] at H
    have c2b0 : ((l0.length : Int) == 0) = true := beq_iff_eq.mpr c2
    have c2b1 : ((l0.length : Int) != 0) = false := bne_eq_false_iff_eq.mpr c2
    clear c2
    simp only [Option.some.injEq, Prod.mk.injEq] at H
    obtain ⟨rfl, rfl⟩ := H
    go_enter Try.func22, Try.ntmps22
    go_wp2
    go_ret2
    exact ⟨_, by first | rfl | (simp [errW_none, errW_some] <;> rfl) | (simp [*, errW_none, errW_some] <;> rfl), by first | exact Kd.S_nil _ _ _ _ _ | exact Kd.N_nil _ _ _ _ _ | exact Kd.V_nil _ _ _ _ _ | exact Kd.Q_nil _ _ _ _ _ | exact Kd.R_nil _ _ _ _ _, by repeat (first | (with_reducible first | exact HB.out | apply below_alloc | apply pw_below_drewN | apply below_drew1) | exact HB.out)⟩
  · rw [if_neg c2] at H
    have c2b0 : ((l0.length : Int) == 0) = false := beq_eq_false_iff_ne.mpr c2
    have c2b1 : ((l0.length : Int) != 0) = true := bne_iff_ne.mpr c2
    have c2b2 : ¬ (l0 = []) := fun h_ => c2 (by rw [h_]; rfl)
    have H' := Aside0.mk H
    clear H
    go_enter Try.func22, Try.ntmps22
    go_wp2
    go_loopg [4, 5, 6] k (fun kq v4 v5 v6 w' => ∃ (x4_1 : List (S30)) (x5_1 : Int) (x6_1 : Int), v5 = .int .i64 x5_1 ∧ v6 = .int .i64 x6_1 ∧ Aside0 (musterref04_All.l0 kq l0 x4_1 x5_1 x6_1 = some (r1, r2)) ∧ Aside0 (kq ≤ k) ∧ Aside0 (Kd.S k30 30 w' w.heap.size (fun _ => True) v4 x4_1) ∧ Aside0 (Below w.heap.size w w'))
    case atStart => exact ⟨(([] : List (S30))), (1), (0), (by first | rfl | (simp; done) | (simp [*]; done)), (by first | rfl | (simp; done) | (simp [*]; done)), H', ⟨Nat.le_refl _⟩, ⟨by first | exact Kd.S_nil _ _ _ _ _ | exact Kd.N_nil _ _ _ _ _ | exact Kd.V_nil _ _ _ _ _ | exact Kd.Q_nil _ _ _ _ _ | exact Kd.R_nil _ _ _ _ _⟩, ⟨by repeat (first | (with_reducible first | exact HB.out | apply below_alloc | apply pw_below_drewN | apply below_drew1) | exact HB.out)⟩⟩
    case round =>
      clear H'
      try clear c2
      try clear c2b0
      try clear c2b1
      try clear c2b2
      try clear p2
      obtain ⟨x4_1, x5_1, x6_1, rfl, rfl, HA, HK1, HO_4, HB⟩ := hrel
      cases gk with
      | zero => exact absurd HA.out (by simp [musterref04_All.l0])
      | succ k1 =>
        have H := HA.out
        clear HA
        simp only [musterref04_All.l0] at H
        by_cases c3 : 0 < (l0.length : Int)
        · rw [if_pos c3] at H
          have c3b0 : decide (0 < (l0.length : Int)) = true := decide_eq_true c3
          have c3b1 : decide (0 < l0.length) = true := decide_eq_true (by omega)
          clear c3
          by_cases c4 : x6_1 < (wrap64 (rd l0 0))
          · rw [if_pos c4] at H
            have c4b0 : decide (x6_1 < (wrap64 (rd l0 0))) = true := decide_eq_true c4
            clear c4
            replace H := Option.bind_eq_some_iff.mp H
            obtain ⟨⟨t241, t242, t243, t244, t245, t248, t251, t252⟩, A50, H⟩ := H
            replace H : (if t252 = true then (if x4_1.length < 1759218604441 then (musterref04_All.l0 k1 l0 (x4_1 ++ [(⟨t241, t242, t243, t244, t245, t248⟩ : S30)]) t251 (wrap64 (x6_1 + 1))) else (none)) else (some (([] : List (S30)), 40))) = some (r1, r2) := H
            have A5 := Aside0.mk A50
            clear A50
            by_cases c6 : t252 = true
            · subst c6
              have H1 : (if x4_1.length < 1759218604441 then (musterref04_All.l0 k1 l0 (x4_1 ++ [(⟨t241, t242, t243, t244, t245, t248⟩ : S30)]) t251 (wrap64 (x6_1 + 1))) else (none)) = some (r1, r2) := by rw [if_pos rfl] at H; exact H
              clear H
              have H := H1
              clear H1
              by_cases c7 : x4_1.length < 1759218604441
              · rw [if_pos c7] at H
                have LMc7 := Aside0.mk c7
                clear c7
                obtain ⟨y254, hy254⟩ : ∃ y_ : List (S30), y_ = (x4_1 ++ [(⟨t241, t242, t243, t244, t245, t248⟩ : S30)]) := ⟨_, rfl⟩
                replace H : (musterref04_All.l0 k1 l0 y254 t251 (wrap64 (x6_1 + 1))) = some (r1, r2) := by first | (rw [hy254]; with_reducible exact H) | (have H2_ := (Option.bind_some _ _).symm.trans H; rw [hy254]; with_reducible exact H2_) | (have H2_ := (Option.bind_some _ _).symm.trans H; with_reducible exact H2_) | with_reducible exact H | (rw [hy254]; exact H) | exact H
                have Ny254 := Aside0.mk hy254
                clear hy254
                have H' := Aside0.mk H
                clear H
                have p240 : 0 ≤ (0 : Int) := (by omega)
                have q240 : 0 < (l0.length : Int) := of_decide_eq_true (by first | (with_reducible assumption) | assumption)
                obtain ⟨ad240, e240, hx240_0⟩ := Kd.at_int HR0.out 0 p240 q240
                cases e240
                have qi240 : (0 < l0.length) = True := eq_true (by omega)
                (try rw [show ((0 : Int)).toNat = 0 from rfl] at hx240_0)
                (try rw [Addr.add_zero'] at hx240_0)
                replace hx240_0 := (HB.out.cell (World.block_lt_of_cell? w _ hx240_0)).trans hx240_0
                replace p240 := eq_true p240
                replace q240 := eq_true q240
                go_wp2_with (first | ((with_reducible refine gate_callee (f := 45) rfl ?_); refine goesL_ (some 26) rfl rfl Try.func45 (by kernel_rfl) rfl #[.slice (some ad240) l0.length c0, .int .i64 x5_1] rfl (by (try simp only [List.map_toArray, List.map_cons, List.map_nil]); first | done | rfl | (simp only [List.length_drop, List.length_take]; rfl)) ?_; (with_reducible refine (musterref04_one.calls _ _ l0 x5_1 t241 t242 t243 t244 t245 t248 t251 true _ ?side1 ?side2 A5.out).mono ?_); (case side1 => repeat (first | exact (Kd.C_below HR0.out HB.out) | (with_reducible refine Kd.C_alloc ?_ _) | (with_reducible refine Kd.C_drewN ?_ _) | (with_reducible refine Kd.C_drew ?_))); (case side2 => exact HC0.out); rintro e w8 ⟨v246, v249, rfl, ho0, ho1, hb⟩; refine ⟨_, rfl, ?_⟩; have n0_ := Aside0.mk (Kd.S_mono (Kd.S_told (Kd.S_told (Kd.S_old (by (with_reducible repeat (first | apply Kd.S_alloc | apply Kd.S_drewN | apply Kd.S_drew)); exact HO_4.out) hb) (Kd.R_base ho0)) (Kd.R_base ho1)) (fun _ h_ => h_.1)); have n1_ := Aside0.mk (Kd.R_lower ho0 (below_size (by repeat (first | (with_reducible first | exact HB.out | apply below_alloc | apply pw_below_drewN | apply below_drew1) | exact HB.out)))); have n2_ := Aside0.mk (Kd.R_lower ho1 (below_size (by repeat (first | (with_reducible first | exact HB.out | apply below_alloc | apply pw_below_drewN | apply below_drew1) | exact HB.out)))); have n3_ := Aside0.mk (below_step (by repeat (first | (with_reducible first | exact HB.out | apply below_alloc | apply pw_below_drewN | apply below_drew1) | exact HB.out)) hb); clear HO_4; clear HB; have HO_4 := n0_; have HO247 := n1_; have HO250 := n2_; have HB := n3_; clear n0_ n1_ n2_ n3_; (try clear hb); (try clear hb2); (try clear hk); (try clear hi); (try clear ho0); (try clear ho1)) | ((with_reducible refine gate_dst (N := 7) rfl ?_); refine box_event ?hg (N := 7) ?hd (cs := #[.int .u8 0, .int .u8 0, .int .i64 0, .string (⟨#[]⟩ : ByteArray), .slice none 0 0, .slice none 0 0]) (t := 30) ?hr ?_; (case hd => rfl); (case hg => rfl); (case hr => first | (go_simp; done) | (go_simp; rfl)); intro gb253 hg w9 hbox hb; have n0_ := Aside0.mk (Kd.S_below (Kd.S_elderB (by (with_reducible repeat (first | apply Kd.S_alloc | apply Kd.S_drewN | apply Kd.S_drew)); exact HO_4.out) gb253 (Nat.le_of_eq hg.symm)) hb); have n1_ := Aside0.mk (Kd.R_below (by (with_reducible repeat (first | apply Kd.R_alloc | apply Kd.R_drewN | apply Kd.R_drew)); exact HO247.out) hb); have n2_ := Aside0.mk (Kd.R_below (by (with_reducible repeat (first | apply Kd.R_alloc | apply Kd.R_drewN | apply Kd.R_drew)); exact HO250.out) hb); have n3_ := Aside0.mk (below_step (by repeat (first | (with_reducible first | exact HB.out | apply below_alloc | apply pw_below_drewN | apply below_drew1) | exact HB.out)) hb); have n4_ := Aside0.mk (hbox); have n5_ := Aside0.mk ((by rw [hg]; exact (below_size (by repeat (first | (with_reducible first | exact HB.out | apply below_alloc | apply pw_below_drewN | apply below_drew1) | exact HB.out))) : w.heap.size ≤ gb253)); have n6_ := Aside0.mk ((by rw [hg]; exact (below_size (by repeat (first | (with_reducible first | exact HB.out | apply below_alloc | apply pw_below_drewN | apply below_drew1) | exact HB.out))) : w.heap.size ≤ gb253)); clear HO_4; clear HO247; clear HO250; clear HB; have HO_4 := n0_; have HO247 := n1_; have HO250 := n2_; have HB := n3_; have BK253 := n4_; have GW253 := n5_; have GE253 := n6_; clear n0_ n1_ n2_ n3_ n4_ n5_ n6_; clear hb hbox hg; have hcz10_0 : w9.cell? ⟨gb253, 0, none⟩ = some (.int .u8 0) := (blk_cell BK253.out 0).trans rfl; have hcz10_1 : w9.cell? ⟨gb253, 1, none⟩ = some (.int .u8 0) := (blk_cell BK253.out 1).trans rfl; have hcz10_2 : w9.cell? ⟨gb253, 2, none⟩ = some (.int .i64 0) := (blk_cell BK253.out 2).trans rfl; have hcz10_3 : w9.cell? ⟨gb253, 3, none⟩ = some (.string (⟨#[]⟩ : ByteArray)) := (blk_cell BK253.out 3).trans rfl; have hcz10_4 : w9.cell? ⟨gb253, 4, none⟩ = some (.slice none 0 0) := (blk_cell BK253.out 4).trans rfl; have hcz10_5 : w9.cell? ⟨gb253, 5, none⟩ = some (.slice none 0 0) := (blk_cell BK253.out 5).trans rfl; have hfz10_0 := blk_frozen BK253.out 0; have hfz10_1 := blk_frozen BK253.out 1; have hfz10_2 := blk_frozen BK253.out 2; have hfz10_3 := blk_frozen BK253.out 3; have hfz10_4 := blk_frozen BK253.out 4; have hfz10_5 := blk_frozen BK253.out 5; obtain ⟨Ao11, co11, eo11⟩ := Kd.R_slice HO247.out; subst eo11; obtain ⟨Ao12, co12, eo12⟩ := Kd.R_slice HO250.out; subst eo12) | ((with_reducible refine gate_store (t := 30) (p := 7) rfl ?_); refine store_event (t := 30) (p := 7) (v := ?vo_w13) (w1 := ((((((w9.setCell ⟨gb253, 0, none⟩ (.int .u8 t241)).setCell ⟨gb253, 1, none⟩ (.int .u8 t242)).setCell ⟨gb253, 2, none⟩ (.int .i64 t243)).setCell ⟨gb253, 3, none⟩ (.string t244)).setCell ⟨gb253, 4, none⟩ (.slice Ao11 t245.length co11)).setCell ⟨gb253, 5, none⟩ (.slice Ao12 t248.length co12))) ?hg ?ho ?hn ?hr ?_; (case ho => rfl); (case hg => rfl); (case hn => rfl); (case hr => first | (go_simp; done) | (go_simp; rfl)); intro w13 hw; have n0_ : Aside0 (Kd.S k30 30 w13 w.heap.size (fun k_ => some k_ ≠ (.slice Ao11 t245.length co11 : Value).ownBlock ∧ some k_ ≠ (.slice Ao12 t248.length co12 : Value).ownBlock ∧ k_ ≠ gb253) u4 x4_1) := ⟨(by rw [hw]; exact (by (with_reducible repeat (first | apply Kd.S_alloc | apply Kd.S_drewN | apply Kd.S_drew)); exact Kd.S_mono (Kd.S_far (p := ⟨gb253, 5, none⟩) (Kd.S_far (p := ⟨gb253, 4, none⟩) (Kd.S_far (p := ⟨gb253, 3, none⟩) (Kd.S_far (p := ⟨gb253, 2, none⟩) (Kd.S_far (p := ⟨gb253, 1, none⟩) (Kd.S_far (p := ⟨gb253, 0, none⟩) (Kd.S_mono HO_4.out (fun k_ hk => (⟨hk, hk.2⟩ : _ ∧ k_ ≠ gb253))) (fun _ hk => hk.2) (.int .u8 t241)) (fun _ hk => hk.2) (.int .u8 t242)) (fun _ hk => hk.2) (.int .i64 t243)) (fun _ hk => hk.2) (.string t244)) (fun _ hk => hk.2) (.slice Ao11 t245.length co11)) (fun _ hk => hk.2) (.slice Ao12 t248.length co12)) (fun _ hk => ⟨hk.1.1.1.2, ⟨hk.1.1.2, hk.1.2⟩⟩)))⟩; have n1_ : Aside0 (Kd.R (Kd.int .i64) 2 w13 w.heap.size (fun _ => True) (.slice Ao11 t245.length co11) t245) := ⟨(by rw [hw]; exact (by (with_reducible repeat (first | apply Kd.R_alloc | apply Kd.R_drewN | apply Kd.R_drew)); exact Kd.R_mono (Kd.R_far (p := ⟨gb253, 5, none⟩) (Kd.R_far (p := ⟨gb253, 4, none⟩) (Kd.R_far (p := ⟨gb253, 3, none⟩) (Kd.R_far (p := ⟨gb253, 2, none⟩) (Kd.R_far (p := ⟨gb253, 1, none⟩) (Kd.R_far (p := ⟨gb253, 0, none⟩) (Kd.R_types HO247.out BK253.out (by decide)) (fun _ hk => hk.2) (.int .u8 t241)) (fun _ hk => hk.2) (.int .u8 t242)) (fun _ hk => hk.2) (.int .i64 t243)) (fun _ hk => hk.2) (.string t244)) (fun _ hk => hk.2) (.slice Ao11 t245.length co11)) (fun _ hk => hk.2) (.slice Ao12 t248.length co12)) (fun _ hk => trivial)))⟩; have n2_ : Aside0 (Kd.R Kd.string 9 w13 w.heap.size (fun _ => True) (.slice Ao12 t248.length co12) t248) := ⟨(by rw [hw]; exact (by (with_reducible repeat (first | apply Kd.R_alloc | apply Kd.R_drewN | apply Kd.R_drew)); exact Kd.R_mono (Kd.R_far (p := ⟨gb253, 5, none⟩) (Kd.R_far (p := ⟨gb253, 4, none⟩) (Kd.R_far (p := ⟨gb253, 3, none⟩) (Kd.R_far (p := ⟨gb253, 2, none⟩) (Kd.R_far (p := ⟨gb253, 1, none⟩) (Kd.R_far (p := ⟨gb253, 0, none⟩) (Kd.R_types HO250.out BK253.out (by decide)) (fun _ hk => hk.2) (.int .u8 t241)) (fun _ hk => hk.2) (.int .u8 t242)) (fun _ hk => hk.2) (.int .i64 t243)) (fun _ hk => hk.2) (.string t244)) (fun _ hk => hk.2) (.slice Ao11 t245.length co11)) (fun _ hk => hk.2) (.slice Ao12 t248.length co12)) (fun _ hk => trivial)))⟩; have n3_ : Aside0 (w13.heap[gb253]? = some (.cells #[.int .u8 t241, .int .u8 t242, .int .i64 t243, .string t244, .slice Ao11 t245.length co11, .slice Ao12 t248.length co12] 30 (0, 0))) := ⟨(by rw [hw]; exact (by (with_reducible repeat (first | refine blk_drewN ?_ _ | refine blk_drew ?_ | refine blk_alloc ?_ _)); refine blk_put (cs := #[.int .u8 t241, .int .u8 t242, .int .i64 t243, .string t244, .slice Ao11 t245.length co11, .slice none 0 0]) ?_ 5 _ rfl; (with_reducible repeat (first | refine blk_drewN ?_ _ | refine blk_drew ?_ | refine blk_alloc ?_ _)); refine blk_put (cs := #[.int .u8 t241, .int .u8 t242, .int .i64 t243, .string t244, .slice none 0 0, .slice none 0 0]) ?_ 4 _ rfl; (with_reducible repeat (first | refine blk_drewN ?_ _ | refine blk_drew ?_ | refine blk_alloc ?_ _)); refine blk_put (cs := #[.int .u8 t241, .int .u8 t242, .int .i64 t243, .string (⟨#[]⟩ : ByteArray), .slice none 0 0, .slice none 0 0]) ?_ 3 _ rfl; (with_reducible repeat (first | refine blk_drewN ?_ _ | refine blk_drew ?_ | refine blk_alloc ?_ _)); refine blk_put (cs := #[.int .u8 t241, .int .u8 t242, .int .i64 0, .string (⟨#[]⟩ : ByteArray), .slice none 0 0, .slice none 0 0]) ?_ 2 _ rfl; (with_reducible repeat (first | refine blk_drewN ?_ _ | refine blk_drew ?_ | refine blk_alloc ?_ _)); refine blk_put (cs := #[.int .u8 t241, .int .u8 0, .int .i64 0, .string (⟨#[]⟩ : ByteArray), .slice none 0 0, .slice none 0 0]) ?_ 1 _ rfl; (with_reducible repeat (first | refine blk_drewN ?_ _ | refine blk_drew ?_ | refine blk_alloc ?_ _)); refine blk_put (cs := #[.int .u8 0, .int .u8 0, .int .i64 0, .string (⟨#[]⟩ : ByteArray), .slice none 0 0, .slice none 0 0]) ?_ 0 _ rfl; (with_reducible repeat (first | refine blk_drewN ?_ _ | refine blk_drew ?_ | refine blk_alloc ?_ _)); exact BK253.out))⟩; have n4_ : Aside0 (Below w.heap.size w w13) := ⟨(by rw [hw]; exact (by repeat (first | (with_reducible first | exact HB.out | apply below_alloc | apply pw_below_drewN | apply below_drew1 | refine below_set ?_ GE253.out) | exact HB.out)))⟩; clear hw; clear HO_4; clear HO247; clear HO250; clear BK253; clear HB; have HO_4 := n0_; have HO247 := n1_; have HO250 := n2_; have BK253 := n3_; have HB := n4_; clear n0_ n1_ n2_ n3_ n4_; have hcz14_0 : w13.cell? ⟨gb253, 0, none⟩ = some (.int .u8 t241) := (blk_cell BK253.out 0).trans rfl; have hcz14_1 : w13.cell? ⟨gb253, 1, none⟩ = some (.int .u8 t242) := (blk_cell BK253.out 1).trans rfl; have hcz14_2 : w13.cell? ⟨gb253, 2, none⟩ = some (.int .i64 t243) := (blk_cell BK253.out 2).trans rfl; have hcz14_3 : w13.cell? ⟨gb253, 3, none⟩ = some (.string t244) := (blk_cell BK253.out 3).trans rfl; have hcz14_4 : w13.cell? ⟨gb253, 4, none⟩ = some (.slice Ao11 t245.length co11) := (blk_cell BK253.out 4).trans rfl; have hcz14_5 : w13.cell? ⟨gb253, 5, none⟩ = some (.slice Ao12 t248.length co12) := (blk_cell BK253.out 5).trans rfl; have hfz14_0 := blk_frozen BK253.out 0; have hfz14_1 := blk_frozen BK253.out 1; have hfz14_2 := blk_frozen BK253.out 2; have hfz14_3 := blk_frozen BK253.out 3; have hfz14_4 := blk_frozen BK253.out 4; have hfz14_5 := blk_frozen BK253.out 5) | ((with_reducible refine gate_builtin (b := .append) (xs := #[.tmp 32, .tmp 34]) rfl ?_); at_builtin; refine Kd.S_append k30 (w0 := w) w.heap.size rfl (.tmp 32) (.tmp 34) 31 30 (.agg #[(.int .u8 0), (.int .u8 0), (.int .i64 0), (.string ⟨#[]⟩), (.slice none 0 0), (.slice none 0 0)]) 80 rfl Try.underlying31 info30 rfl (by decide) (by omega) u4 x4_1 (⟨t241, t242, t243, t244, t245, t248⟩ : S30) [.int .u8 t241, .int .u8 t242, .int .i64 t243, .string t244, .slice Ao11 t245.length co11, .slice Ao12 t248.length co12] (fun k_ => k_ ≠ gb253) (fun k_ => some k_ = (.slice Ao11 t245.length co11 : Value).ownBlock ∨ some k_ = (.slice Ao12 t248.length co12 : Value).ownBlock) rfl rfl ?aP (fun k_ hk_ => hk_.elim (fun h_ => ((Kd.R_mono (ok' := fun k_ => ((fun k_ => k_ ≠ gb253)) k_ ∧ some k_ ≠ (u4 : Value).ownBlock) (Kd.R_types (Kd.R_apart' (HO247.out) (Kd.S_typed HO_4.out) (by decide)) BK253.out (by decide)) (fun k_ hk => ⟨hk.2, hk.1.2⟩))).1 k_ h_.symm) (fun h_ => ((Kd.R_mono (ok' := fun k_ => ((fun k_ => k_ ≠ gb253)) k_ ∧ some k_ ≠ (u4 : Value).ownBlock) (Kd.R_types (Kd.R_apart' (HO250.out) (Kd.S_typed HO_4.out) (by decide)) BK253.out (by decide)) (fun k_ hk => ⟨hk.2, hk.1.2⟩))).1 k_ h_.symm)) ?aF ?aO ?aB ?aS ?aL ?_; (case aP => exact k30_mkM _ _ _ (⟨t241, t242, t243, t244, t245, t248⟩ : S30) (Kd.R_mono (Kd.R_tight rfl (Kd.R_mono (ok' := fun k_ => ((fun k_ => k_ ≠ gb253)) k_ ∧ some k_ ≠ (u4 : Value).ownBlock) (Kd.R_types (Kd.R_apart' (HO247.out) (Kd.S_typed HO_4.out) (by decide)) BK253.out (by decide)) (fun k_ hk => ⟨hk.2, hk.1.2⟩))) (fun _ h_ => Or.inl h_)) (Kd.R_mono (Kd.R_tight rfl (Kd.R_mono (ok' := fun k_ => ((fun k_ => k_ ≠ gb253)) k_ ∧ some k_ ≠ (u4 : Value).ownBlock) (Kd.R_types (Kd.R_apart' (HO250.out) (Kd.S_typed HO_4.out) (by decide)) BK253.out (by decide)) (fun k_ hk => ⟨hk.2, hk.1.2⟩))) (fun _ h_ => Or.inr (h_)))); (case aB => exact (by repeat (first | (with_reducible first | exact HB.out | apply below_alloc | apply pw_below_drewN | apply below_drew1 | refine below_set ?_ GE253.out) | exact HB.out))); (case aF => exact (fun k_ hk => Kd.freshB (g := gb253) (o := .cells #[.int .u8 t241, .int .u8 t242, .int .i64 t243, .string t244, .slice Ao11 t245.length co11, .slice Ao12 t248.length co12] 30 (0, 0)) (by (with_reducible repeat (first | refine blk_drewN ?_ _ | refine blk_drew ?_ | refine blk_alloc ?_ _)); exact BK253.out) k_ hk)); (case aO => exact (by (with_reducible repeat (first | apply Kd.S_alloc | apply Kd.S_drewN | apply Kd.S_drew)); exact Kd.S_mono HO_4.out (fun k_ hk => ⟨hk.2.2, fun e_ => e_.elim (fun h_ => hk.1 h_) (fun h_ => hk.2.1 h_)⟩))); (case aS => exact (below_size (by repeat (first | (with_reducible first | exact HB.out | apply below_alloc | apply pw_below_drewN | apply below_drew1 | refine below_set ?_ GE253.out) | exact HB.out)))); (case aL => have := LMc7.out; omega); intro v255 w15 ho hb hg hat; rw [← Ny254.out] at ho; have n0_ := Aside0.mk (blk_grown (g := gb253) (o := .cells #[.int .u8 t241, .int .u8 t242, .int .i64 t243, .string t244, .slice Ao11 t245.length co11, .slice Ao12 t248.length co12] 30 (0, 0)) (by (with_reducible repeat (first | refine blk_drewN ?_ _ | refine blk_drew ?_ | refine blk_alloc ?_ _)); exact BK253.out) hg (Kd.S_away HO_4.out (fun _ hk => hk.2.2))); have n1_ := Aside0.mk (hb); have n2_ := Aside0.mk (ho); clear BK253; clear HB; clear HO_4; clear HO247; clear HO250; have BK253 := n0_; have HB := n1_; have HO256 := n2_; clear n0_ n1_ n2_; clear ho hb hg hat))
                go_roundg k1
                case measure => have := HK1.out; omega
                case rel => exact ⟨(y254), (t251), (wrap64 (x6_1 + 1)), (by first | rfl | (simp; done) | (simp [*]; done)), (by first | rfl | (simp; done) | (simp [*]; done)), H', ⟨by have := HK1.out; omega⟩, ⟨by (with_reducible repeat (first | apply Kd.S_alloc | apply Kd.S_drewN | apply Kd.S_drew)); exact Kd.S_mono HO256.out (fun _ hk => trivial)⟩, ⟨by repeat (first | (with_reducible first | exact HB.out | apply below_alloc | apply pw_below_drewN | apply below_drew1 | refine below_set ?_ GE253.out) | exact HB.out)⟩⟩
              · rw [if_neg c7] at H
                exact absurd H (by simp)
            · replace c6 := Bool.eq_false_iff.mpr c6
              subst c6
              have H1 : (some (([] : List (S30)), 40)) = some (r1, r2) := by rw [if_neg (show ¬ (false = true) by decide)] at H; exact H
              clear H
              have H := H1
              clear H1
              simp only [Option.some.injEq, Prod.mk.injEq] at H
              obtain ⟨rfl, rfl⟩ := H
              have p240 : 0 ≤ (0 : Int) := (by omega)
              have q240 : 0 < (l0.length : Int) := of_decide_eq_true (by first | (with_reducible assumption) | assumption)
              obtain ⟨ad240, e240, hx240_0⟩ := Kd.at_int HR0.out 0 p240 q240
              cases e240
              have qi240 : (0 < l0.length) = True := eq_true (by omega)
              (try rw [show ((0 : Int)).toNat = 0 from rfl] at hx240_0)
              (try rw [Addr.add_zero'] at hx240_0)
              replace hx240_0 := (HB.out.cell (World.block_lt_of_cell? w _ hx240_0)).trans hx240_0
              replace p240 := eq_true p240
              replace q240 := eq_true q240
              go_wp2_with (first | ((with_reducible refine gate_callee (f := 45) rfl ?_); refine goesL_ (some 26) rfl rfl Try.func45 (by kernel_rfl) rfl #[.slice (some ad240) l0.length c0, .int .i64 x5_1] rfl (by (try simp only [List.map_toArray, List.map_cons, List.map_nil]); first | done | rfl | (simp only [List.length_drop, List.length_take]; rfl)) ?_; (with_reducible refine (musterref04_one.calls _ _ l0 x5_1 t241 t242 t243 t244 t245 t248 t251 false _ ?side1 ?side2 A5.out).mono ?_); (case side1 => repeat (first | exact (Kd.C_below HR0.out HB.out) | (with_reducible refine Kd.C_alloc ?_ _) | (with_reducible refine Kd.C_drewN ?_ _) | (with_reducible refine Kd.C_drew ?_))); (case side2 => exact HC0.out); rintro e w16 ⟨v246, v249, rfl, ho0, ho1, hb⟩; refine ⟨_, rfl, ?_⟩; have n0_ := Aside0.mk (Kd.S_mono (Kd.S_told (Kd.S_told (Kd.S_old (by (with_reducible repeat (first | apply Kd.S_alloc | apply Kd.S_drewN | apply Kd.S_drew)); exact HO_4.out) hb) (Kd.R_base ho0)) (Kd.R_base ho1)) (fun _ h_ => h_.1)); have n1_ := Aside0.mk (Kd.R_lower ho0 (below_size (by repeat (first | (with_reducible first | exact HB.out | apply below_alloc | apply pw_below_drewN | apply below_drew1) | exact HB.out)))); have n2_ := Aside0.mk (Kd.R_lower ho1 (below_size (by repeat (first | (with_reducible first | exact HB.out | apply below_alloc | apply pw_below_drewN | apply below_drew1) | exact HB.out)))); have n3_ := Aside0.mk (below_step (by repeat (first | (with_reducible first | exact HB.out | apply below_alloc | apply pw_below_drewN | apply below_drew1) | exact HB.out)) hb); clear HO_4; clear HB; have HO_4 := n0_; have HO247 := n1_; have HO250 := n2_; have HB := n3_; clear n0_ n1_ n2_ n3_; (try clear hb); (try clear hb2); (try clear hk); (try clear hi); (try clear ho0); (try clear ho1)) | ((with_reducible refine gate_dst (N := 7) rfl ?_); refine box_event ?hg (N := 7) ?hd (cs := #[.int .u8 0, .int .u8 0, .int .i64 0, .string (⟨#[]⟩ : ByteArray), .slice none 0 0, .slice none 0 0]) (t := 30) ?hr ?_; (case hd => rfl); (case hg => rfl); (case hr => first | (go_simp; done) | (go_simp; rfl)); intro gb253 hg w17 hbox hb; have n0_ := Aside0.mk (Kd.S_below (Kd.S_elderB (by (with_reducible repeat (first | apply Kd.S_alloc | apply Kd.S_drewN | apply Kd.S_drew)); exact HO_4.out) gb253 (Nat.le_of_eq hg.symm)) hb); have n1_ := Aside0.mk (Kd.R_below (by (with_reducible repeat (first | apply Kd.R_alloc | apply Kd.R_drewN | apply Kd.R_drew)); exact HO247.out) hb); have n2_ := Aside0.mk (Kd.R_below (by (with_reducible repeat (first | apply Kd.R_alloc | apply Kd.R_drewN | apply Kd.R_drew)); exact HO250.out) hb); have n3_ := Aside0.mk (below_step (by repeat (first | (with_reducible first | exact HB.out | apply below_alloc | apply pw_below_drewN | apply below_drew1) | exact HB.out)) hb); have n4_ := Aside0.mk (hbox); have n5_ := Aside0.mk ((by rw [hg]; exact (below_size (by repeat (first | (with_reducible first | exact HB.out | apply below_alloc | apply pw_below_drewN | apply below_drew1) | exact HB.out))) : w.heap.size ≤ gb253)); have n6_ := Aside0.mk ((by rw [hg]; exact (below_size (by repeat (first | (with_reducible first | exact HB.out | apply below_alloc | apply pw_below_drewN | apply below_drew1) | exact HB.out))) : w.heap.size ≤ gb253)); clear HO_4; clear HO247; clear HO250; clear HB; have HO_4 := n0_; have HO247 := n1_; have HO250 := n2_; have HB := n3_; have BK253 := n4_; have GW253 := n5_; have GE253 := n6_; clear n0_ n1_ n2_ n3_ n4_ n5_ n6_; clear hb hbox hg; have hcz18_0 : w17.cell? ⟨gb253, 0, none⟩ = some (.int .u8 0) := (blk_cell BK253.out 0).trans rfl; have hcz18_1 : w17.cell? ⟨gb253, 1, none⟩ = some (.int .u8 0) := (blk_cell BK253.out 1).trans rfl; have hcz18_2 : w17.cell? ⟨gb253, 2, none⟩ = some (.int .i64 0) := (blk_cell BK253.out 2).trans rfl; have hcz18_3 : w17.cell? ⟨gb253, 3, none⟩ = some (.string (⟨#[]⟩ : ByteArray)) := (blk_cell BK253.out 3).trans rfl; have hcz18_4 : w17.cell? ⟨gb253, 4, none⟩ = some (.slice none 0 0) := (blk_cell BK253.out 4).trans rfl; have hcz18_5 : w17.cell? ⟨gb253, 5, none⟩ = some (.slice none 0 0) := (blk_cell BK253.out 5).trans rfl; have hfz18_0 := blk_frozen BK253.out 0; have hfz18_1 := blk_frozen BK253.out 1; have hfz18_2 := blk_frozen BK253.out 2; have hfz18_3 := blk_frozen BK253.out 3; have hfz18_4 := blk_frozen BK253.out 4; have hfz18_5 := blk_frozen BK253.out 5; obtain ⟨Ao19, co19, eo19⟩ := Kd.R_slice HO247.out; subst eo19; obtain ⟨Ao20, co20, eo20⟩ := Kd.R_slice HO250.out; subst eo20))
              go_ret2
              exact ⟨_, by first | rfl | (simp [errW_none, errW_some] <;> rfl) | (simp [*, errW_none, errW_some] <;> rfl), by first | exact Kd.S_nil _ _ _ _ _ | exact Kd.N_nil _ _ _ _ _ | exact Kd.V_nil _ _ _ _ _ | exact Kd.Q_nil _ _ _ _ _ | exact Kd.R_nil _ _ _ _ _, by repeat (first | (with_reducible first | exact HB.out | apply below_alloc | apply pw_below_drewN | apply below_drew1 | refine below_set ?_ GE253.out) | exact HB.out)⟩
          · rw [if_neg c4] at H
            have c4b0 : decide (x6_1 < (wrap64 (rd l0 0))) = false := decide_eq_false c4
            clear c4
            replace H := Option.bind_eq_some_iff.mp H
            obtain ⟨⟨t257, t258⟩, A210, H⟩ := H
            replace H : (if t258 = 0 then ((musterlow_SameBytes.f t257 l0).bind fun t261 => (if t261 = true then (some (x4_1, 0)) else (some (([] : List (S30)), 40)))) else (some (([] : List (S30)), 40))) = some (r1, r2) := H
            have A21 := Aside0.mk A210
            clear A210
            by_cases c22 : t258 = 0
            · rw [if_pos c22] at H
              have c22b0 : (t258 == 0) = true := beq_iff_eq.mpr c22
              have c22b1 : (t258 != 0) = false := bne_eq_false_iff_eq.mpr c22
              clear c22
              replace H := Option.bind_eq_some_iff.mp H
              obtain ⟨t261, A230, H⟩ := H
              replace H : (if t261 = true then (some (x4_1, 0)) else (some (([] : List (S30)), 40))) = some (r1, r2) := H
              have A23 := Aside0.mk A230
              clear A230
              by_cases c24 : t261 = true
              · subst c24
                have H1 : (some (x4_1, 0)) = some (r1, r2) := by rw [if_pos rfl] at H; exact H
                clear H
                have H := H1
                clear H1
                simp only [Option.some.injEq, Prod.mk.injEq] at H
                obtain ⟨rfl, rfl⟩ := H
                have p240 : 0 ≤ (0 : Int) := (by omega)
                have q240 : 0 < (l0.length : Int) := of_decide_eq_true (by first | (with_reducible assumption) | assumption)
                obtain ⟨ad240, e240, hx240_0⟩ := Kd.at_int HR0.out 0 p240 q240
                cases e240
                have qi240 : (0 < l0.length) = True := eq_true (by omega)
                (try rw [show ((0 : Int)).toNat = 0 from rfl] at hx240_0)
                (try rw [Addr.add_zero'] at hx240_0)
                replace hx240_0 := (HB.out.cell (World.block_lt_of_cell? w _ hx240_0)).trans hx240_0
                replace p240 := eq_true p240
                replace q240 := eq_true q240
                obtain ⟨Ao25, co25, eo25⟩ := Kd.S_slice HO_4.out
                subst eo25
                go_wp2_with (first | ((with_reducible refine gate_callee (f := 15) rfl ?_); refine goesL_ (some 39) rfl rfl Try.func15 (by kernel_rfl) rfl #[.slice Ao25 x4_1.length co25] rfl (by (try simp only [List.map_toArray, List.map_cons, List.map_nil]); first | done | rfl | (simp only [List.length_drop, List.length_take]; rfl)) ?_; (with_reducible refine (musterref04_Put.calls k1 _ _ x4_1 t257 t258 _ ?side1 ?side2 A21.out).mono ?_); (case side1 => repeat (first | exact (Kd.S_reads' HO_4.out).2.2 | (with_reducible refine Kd.C_alloc ?_ _) | (with_reducible refine Kd.C_drewN ?_ _) | (with_reducible refine Kd.C_drew ?_))); (case side2 => exact (Kd.S_reads' HO_4.out).2.1); rintro e w26 ⟨v259, rfl, ho0, hb⟩; refine ⟨_, rfl, ?_⟩; have n0_ := Aside0.mk (Kd.S_below (by (with_reducible repeat (first | apply Kd.S_alloc | apply Kd.S_drewN | apply Kd.S_drew)); exact HO_4.out) hb); have n1_ := Aside0.mk (Kd.R_lower ho0 (below_size (by repeat (first | (with_reducible first | exact HB.out | apply below_alloc | apply pw_below_drewN | apply below_drew1) | exact HB.out)))); have n2_ := Aside0.mk (below_step (by repeat (first | (with_reducible first | exact HB.out | apply below_alloc | apply pw_below_drewN | apply below_drew1) | exact HB.out)) hb); clear HO_4; clear HB; have HO_4 := n0_; have HO260 := n1_; have HB := n2_; clear n0_ n1_ n2_; (try clear hb); (try clear hb2); (try clear hk); (try clear hi); (try clear ho0); obtain ⟨Ao27, co27, eo27⟩ := Kd.R_slice HO260.out; subst eo27) | (go_at_call 9; (with_reducible refine (musterlow_SameBytes.calls _ _ t257 _ _ l0 true _ ?side1 ?side2 ?side3 ?side4 A23.out).mono ?_); (case side1 => repeat (first | exact (Kd.R_reads' HO260.out).2.2 | (with_reducible refine Kd.C_alloc ?_ _) | (with_reducible refine Kd.C_drewN ?_ _) | (with_reducible refine Kd.C_drew ?_))); (case side2 => exact (Kd.R_reads' HO260.out).2.1); (case side3 => repeat (first | exact (Kd.C_below HR0.out HB.out) | (with_reducible refine Kd.C_alloc ?_ _) | (with_reducible refine Kd.C_drewN ?_ _) | (with_reducible refine Kd.C_drew ?_))); (case side4 => exact HC0.out); rintro e w' ⟨rfl, ⟨nd, rfl⟩⟩))
                go_ret2
                exact ⟨_, by first | rfl | (simp [errW_none, errW_some] <;> rfl) | (simp [*, errW_none, errW_some] <;> rfl), by (with_reducible repeat (first | apply Kd.S_alloc | apply Kd.S_drewN | apply Kd.S_drew)); exact HO_4.out, by repeat (first | (with_reducible first | exact HB.out | apply below_alloc | apply pw_below_drewN | apply below_drew1) | exact HB.out)⟩
              · replace c24 := Bool.eq_false_iff.mpr c24
                subst c24
                have H1 : (some (([] : List (S30)), 40)) = some (r1, r2) := by rw [if_neg (show ¬ (false = true) by decide)] at H; exact H
                clear H
                have H := H1
                clear H1
                simp only [Option.some.injEq, Prod.mk.injEq] at H
                obtain ⟨rfl, rfl⟩ := H
                have p240 : 0 ≤ (0 : Int) := (by omega)
                have q240 : 0 < (l0.length : Int) := of_decide_eq_true (by first | (with_reducible assumption) | assumption)
                obtain ⟨ad240, e240, hx240_0⟩ := Kd.at_int HR0.out 0 p240 q240
                cases e240
                have qi240 : (0 < l0.length) = True := eq_true (by omega)
                (try rw [show ((0 : Int)).toNat = 0 from rfl] at hx240_0)
                (try rw [Addr.add_zero'] at hx240_0)
                replace hx240_0 := (HB.out.cell (World.block_lt_of_cell? w _ hx240_0)).trans hx240_0
                replace p240 := eq_true p240
                replace q240 := eq_true q240
                obtain ⟨Ao28, co28, eo28⟩ := Kd.S_slice HO_4.out
                subst eo28
                go_wp2_with (first | ((with_reducible refine gate_callee (f := 15) rfl ?_); refine goesL_ (some 39) rfl rfl Try.func15 (by kernel_rfl) rfl #[.slice Ao28 x4_1.length co28] rfl (by (try simp only [List.map_toArray, List.map_cons, List.map_nil]); first | done | rfl | (simp only [List.length_drop, List.length_take]; rfl)) ?_; (with_reducible refine (musterref04_Put.calls k1 _ _ x4_1 t257 t258 _ ?side1 ?side2 A21.out).mono ?_); (case side1 => repeat (first | exact (Kd.S_reads' HO_4.out).2.2 | (with_reducible refine Kd.C_alloc ?_ _) | (with_reducible refine Kd.C_drewN ?_ _) | (with_reducible refine Kd.C_drew ?_))); (case side2 => exact (Kd.S_reads' HO_4.out).2.1); rintro e w29 ⟨v259, rfl, ho0, hb⟩; refine ⟨_, rfl, ?_⟩; have n0_ := Aside0.mk (Kd.S_below (by (with_reducible repeat (first | apply Kd.S_alloc | apply Kd.S_drewN | apply Kd.S_drew)); exact HO_4.out) hb); have n1_ := Aside0.mk (Kd.R_lower ho0 (below_size (by repeat (first | (with_reducible first | exact HB.out | apply below_alloc | apply pw_below_drewN | apply below_drew1) | exact HB.out)))); have n2_ := Aside0.mk (below_step (by repeat (first | (with_reducible first | exact HB.out | apply below_alloc | apply pw_below_drewN | apply below_drew1) | exact HB.out)) hb); clear HO_4; clear HB; have HO_4 := n0_; have HO260 := n1_; have HB := n2_; clear n0_ n1_ n2_; (try clear hb); (try clear hb2); (try clear hk); (try clear hi); (try clear ho0); obtain ⟨Ao30, co30, eo30⟩ := Kd.R_slice HO260.out; subst eo30) | (go_at_call 9; (with_reducible refine (musterlow_SameBytes.calls _ _ t257 _ _ l0 false _ ?side1 ?side2 ?side3 ?side4 A23.out).mono ?_); (case side1 => repeat (first | exact (Kd.R_reads' HO260.out).2.2 | (with_reducible refine Kd.C_alloc ?_ _) | (with_reducible refine Kd.C_drewN ?_ _) | (with_reducible refine Kd.C_drew ?_))); (case side2 => exact (Kd.R_reads' HO260.out).2.1); (case side3 => repeat (first | exact (Kd.C_below HR0.out HB.out) | (with_reducible refine Kd.C_alloc ?_ _) | (with_reducible refine Kd.C_drewN ?_ _) | (with_reducible refine Kd.C_drew ?_))); (case side4 => exact HC0.out); rintro e w' ⟨rfl, ⟨nd, rfl⟩⟩))
                go_ret2
                exact ⟨_, by first | rfl | (simp [errW_none, errW_some] <;> rfl) | (simp [*, errW_none, errW_some] <;> rfl), by first | exact Kd.S_nil _ _ _ _ _ | exact Kd.N_nil _ _ _ _ _ | exact Kd.V_nil _ _ _ _ _ | exact Kd.Q_nil _ _ _ _ _ | exact Kd.R_nil _ _ _ _ _, by repeat (first | (with_reducible first | exact HB.out | apply below_alloc | apply pw_below_drewN | apply below_drew1) | exact HB.out)⟩
            · rw [if_neg c22] at H
              have c22b0 : (t258 == 0) = false := beq_eq_false_iff_ne.mpr c22
              have c22b1 : (t258 != 0) = true := bne_iff_ne.mpr c22
              simp only [Option.some.injEq, Prod.mk.injEq] at H
              obtain ⟨rfl, rfl⟩ := H
              have p240 : 0 ≤ (0 : Int) := (by omega)
              have q240 : 0 < (l0.length : Int) := of_decide_eq_true (by first | (with_reducible assumption) | assumption)
              obtain ⟨ad240, e240, hx240_0⟩ := Kd.at_int HR0.out 0 p240 q240
              cases e240
              have qi240 : (0 < l0.length) = True := eq_true (by omega)
              (try rw [show ((0 : Int)).toNat = 0 from rfl] at hx240_0)
              (try rw [Addr.add_zero'] at hx240_0)
              replace hx240_0 := (HB.out.cell (World.block_lt_of_cell? w _ hx240_0)).trans hx240_0
              replace p240 := eq_true p240
              replace q240 := eq_true q240
              obtain ⟨Ao31, co31, eo31⟩ := Kd.S_slice HO_4.out
              subst eo31
              go_wp2_with (first | ((with_reducible refine gate_callee (f := 15) rfl ?_); refine goesL_ (some 39) rfl rfl Try.func15 (by kernel_rfl) rfl #[.slice Ao31 x4_1.length co31] rfl (by (try simp only [List.map_toArray, List.map_cons, List.map_nil]); first | done | rfl | (simp only [List.length_drop, List.length_take]; rfl)) ?_; (with_reducible refine (musterref04_Put.calls k1 _ _ x4_1 t257 t258 _ ?side1 ?side2 A21.out).mono ?_); (case side1 => repeat (first | exact (Kd.S_reads' HO_4.out).2.2 | (with_reducible refine Kd.C_alloc ?_ _) | (with_reducible refine Kd.C_drewN ?_ _) | (with_reducible refine Kd.C_drew ?_))); (case side2 => exact (Kd.S_reads' HO_4.out).2.1); rintro e w32 ⟨v259, rfl, ho0, hb⟩; refine ⟨_, rfl, ?_⟩; have n0_ := Aside0.mk (Kd.S_below (by (with_reducible repeat (first | apply Kd.S_alloc | apply Kd.S_drewN | apply Kd.S_drew)); exact HO_4.out) hb); have n1_ := Aside0.mk (Kd.R_lower ho0 (below_size (by repeat (first | (with_reducible first | exact HB.out | apply below_alloc | apply pw_below_drewN | apply below_drew1) | exact HB.out)))); have n2_ := Aside0.mk (below_step (by repeat (first | (with_reducible first | exact HB.out | apply below_alloc | apply pw_below_drewN | apply below_drew1) | exact HB.out)) hb); clear HO_4; clear HB; have HO_4 := n0_; have HO260 := n1_; have HB := n2_; clear n0_ n1_ n2_; (try clear hb); (try clear hb2); (try clear hk); (try clear hi); (try clear ho0)))
              go_ret2
              exact ⟨_, by first | rfl | (simp [errW_none, errW_some] <;> rfl) | (simp [*, errW_none, errW_some] <;> rfl), by first | exact Kd.S_nil _ _ _ _ _ | exact Kd.N_nil _ _ _ _ _ | exact Kd.V_nil _ _ _ _ _ | exact Kd.Q_nil _ _ _ _ _ | exact Kd.R_nil _ _ _ _ _, by repeat (first | (with_reducible first | exact HB.out | apply below_alloc | apply pw_below_drewN | apply below_drew1) | exact HB.out)⟩
        · rw [if_neg c3] at H
          exact absurd H (by simp)

end Go.Proofs.Ytnhkbjihgepapaa.PF

namespace Go.Proofs.Ytnhkbjihgepapaa.Fd
set_option linter.unusedVariables false
set_option linter.unusedSimpArgs false
open Go.RowKit Go.Proofs.YtnhkbjihgepapaaW.PrintWords Go.Proofs.YtnhkbjihgepapaaW.PrintLast Go.Proofs.YtnhkbjihgepapaaW.PrintMore Go.Proofs.Ytnhkbjihgepapaa.PF Go.Proofs.Ytnhkbjihgepapaa.Oct Go.Proofs.Ytnhkbjihgepapaa.EvK
theorem rfright_f (x : Fl) (h : Mem9 x) : musterref04_right.f x.f0 x.f1 x.f2 x.f3 x.f4 x.f5 = some (rightX x) := by
  unfold Mem9 at h
  unfold musterref04_right.f rightX
  rw [if_pos h]
theorem rRight_l0 (l : List Fl) (hl : l.length ≤ 64) (hm : ∀ x ∈ l, Mem9 x) : ∀ d j, l.length - j = d → j ≤ l.length → okL l j = true → Ev (fun k => musterref04_Right.l0 k l (j : Int)) (rightL l)
  | 0, j, hd, hj, ha => by
    obtain rfl : j = l.length := by omega
    refine Ev.stp (fun k => by rw [musterref04_Right.l0]) (Ev.neg (by omega) (Ev.one ?_))
    unfold rightL
    rw [ha, Bool.true_and, decide_eq_true (by omega)]
  | d + 1, j, hd, hj, ha => by
    have hlt : j < l.length := by omega
    have hst := stepL_at l j hlt
    have bad : stepL l j = false → false = rightL l := fun h => by
      unfold rightL
      rw [okL_bad l (j + 1) (by rw [okL, ha, h]; rfl) l.length (by omega)]
      rfl
    have good : stepL l j = true → Ev (fun k => musterref04_Right.l0 k l (wrap64 ((j : Int) + 1))) (rightL l) := fun h => by
      rw [wr1 (by omega)]
      exact rRight_l0 l hl hm d (j + 1) (by omega) (by omega) (by rw [okL, ha, h]; rfl)
    refine Ev.stp (fun k => by rw [musterref04_Right.l0]) (Ev.pos (by omega) (Ev.pos (by omega) ?_))
    rw [rdF l j hlt]
    refine Ev.bnd (a := rightX l[j]) (Ev.const (rfright_f _ (hm _ (List.getElem_mem hlt)))) ?_
    cases hx : rightX l[j] with
    | false => exact Ev.neg (by decide) (Ev.one (bad (by rw [hst, hx]; rfl)))
    | true =>
      refine Ev.pos rfl ?_
      cases j with
      | zero => exact Ev.neg (by decide) (good (by rw [hst, hx]; rfl))
      | succ i =>
        rw [hx, Bool.true_and, dif_neg (Nat.succ_ne_zero i)] at hst
        simp only [Nat.add_sub_cancel] at hst
        have e1 : wrap64 (((i + 1 : Nat) : Int) - 1) = (i : Int) := by unfold wrap64; omega
        rw [e1]
        refine Ev.pos (by omega) (Ev.pos (by omega) (Ev.pos (by omega) ?_))
        rw [rdF l i (by omega)]
        by_cases h : l[i + 1].f0 ≤ (l[i]'(by omega)).f0
        · exact Ev.pos h (Ev.one (bad (by rw [hst]; exact decide_eq_false (by omega))))
        · exact Ev.neg h (good (by rw [hst]; exact decide_eq_true (by omega)))
theorem rRight_ev (l : List Fl) (hm : ∀ x ∈ l, Mem9 x) : Ev (fun k => musterref04_Right.f k l) (rightL l) := by
  unfold musterref04_Right.f
  by_cases h : (l.length : Int) > 64
  · refine Ev.pos h (Ev.one ?_)
    unfold rightL
    rw [decide_eq_false (by omega), Bool.and_false]
  · exact Ev.neg h (rRight_l0 l (by omega) hm _ 0 rfl (Nat.zero_le _) rfl)
/-! ### Put -/
theorem refAdd_f (b : List Int) (n : Int) (m : Nat) (h0 : 0 ≤ n) (h1 : n < 18446744073709551616) (hm0 : 1 ≤ m) (hm : m ≤ 8) (hb : b.length ≤ 1099511627776) : musterref01_Add.f b n (m : Int) = some (b ++ be n m) := by
  unfold musterref01_Add.f
  rw [if_pos (okAdd1_mk h0 h1 (by omega) (by omega) (by omega)), Int.toNat_natCast]
theorem refAdd8_f (b : List Int) (n : Int) (hb : b.length ≤ 1099511627776) : musterref01_Add.f b (IntKind.u64.wrap n) 8 = some (b ++ encN n) := by
  have h := u64_range n
  unfold u64 at h
  exact refAdd_f b _ 8 h.1 h.2 (by omega) (by omega) hb
theorem u64_small (n : Nat) (h : n ≤ 65535) : IntKind.u64.wrap (n : Int) = n := by rw [IntKind.wrap_u64]; omega
theorem refAddText_f (b : List Int) (t : ByteArray) (hb : b.length ≤ 1099511627776) (ht : t.size ≤ 65535) : musterref01_AddText.f b t = some (b ++ encT t, 0) := by
  unfold musterref01_AddText.f addTextE okText addText encT
  rw [if_pos (decide_eq_true (by omega)), if_pos ht, List.append_assoc]
/-- What the document's Put goes on with behind a field. -/
def goOn (l : List Fl) (b : List Int) (j : Nat) : Nat → Option (List Int × Int) := fun k => if (b.length : Int) > 65000 then some ([], 3) else musterref04_Put.l0 k l b (wrap64 ((j : Int) + 1))
theorem rPut_l1 (l : List Fl) (x : Fl) (p : Nat) (r : List Int × Int) (hl : x.f4.length ≤ 256) : ∀ d j (b : List Int), x.f4.length - j = d → j ≤ x.f4.length → b.length + 8 * (x.f4.length - j) ≤ 1099511627776 → Ev (goOn l (b ++ (x.f4.drop j).flatMap encN) p) r → Ev (fun k => musterref04_Put.l1 k l b (p : Int) (j : Int) x.f0 x.f1 x.f2 x.f3 x.f4 x.f5) r
  | 0, j, b, hd, hj, hn, hr => by
    rw [List.drop_of_length_le (by omega), List.flatMap_nil, List.append_nil] at hr
    unfold goOn at hr
    refine Ev.stp (fun k => by rw [musterref04_Put.l1]) (Ev.neg (by omega) ?_)
    exact hr
  | d + 1, j, b, hd, hj, hn, hr => by
    have hlt : j < x.f4.length := by omega
    refine Ev.stp (fun k => by rw [musterref04_Put.l1]) (Ev.pos (by omega) (Ev.pos (by omega) ?_))
    rw [rdI x.f4 j hlt, refAdd8_f b _ (by omega), wr1 (by omega)]
    rw [List.drop_eq_getElem_cons hlt, List.flatMap_cons, ← List.append_assoc] at hr
    exact Ev.sbnd (rPut_l1 l x p r hl d (j + 1) (b ++ encN x.f4[j]) (by omega) (by omega) (by rw [List.length_append, encN_len]; omega) hr)
theorem rPut_l2 (l : List Fl) (x : Fl) (p : Nat) (r : List Int × Int) (h : ∀ t ∈ x.f5, t.size ≤ 65535) (hl : x.f5.length ≤ 256) : ∀ d j (b : List Int), x.f5.length - j = d → j ≤ x.f5.length → b.length + 65537 * (x.f5.length - j) ≤ 1099511627776 → Ev (goOn l (b ++ (x.f5.drop j).flatMap encT) p) r → Ev (fun k => musterref04_Put.l2 k l b (p : Int) (j : Int) x.f0 x.f1 x.f2 x.f3 x.f4 x.f5) r
  | 0, j, b, hd, hj, hn, hr => by
    rw [List.drop_of_length_le (by omega), List.flatMap_nil, List.append_nil] at hr
    unfold goOn at hr
    refine Ev.stp (fun k => by rw [musterref04_Put.l2]) (Ev.neg (by omega) ?_)
    exact hr
  | d + 1, j, b, hd, hj, hn, hr => by
    have hlt : j < x.f5.length := by omega
    have hz := h x.f5[j] (List.getElem_mem hlt)
    refine Ev.stp (fun k => by rw [musterref04_Put.l2]) (Ev.pos (by omega) (Ev.pos (by omega) ?_))
    rw [rdS x.f5 j hlt, refAddText_f b _ (by omega) hz, wr1 (by omega)]
    rw [List.drop_eq_getElem_cons hlt, List.flatMap_cons, ← List.append_assoc] at hr
    exact Ev.sbnd (rPut_l2 l x p r h hl d (j + 1) (b ++ encT x.f5[j]) (by omega) (by omega) (by rw [List.length_append, encT_len]; omega) hr)
theorem rPut_l0 (l : List Fl) (h : ∀ x ∈ l, rightX x = true) (hl : l.length ≤ 64) : ∀ d j (b : List Int), l.length - j = d → j ≤ l.length → b.length ≤ 65000 → Ev (fun k => musterref04_Put.l0 k l b (j : Int)) (if 65000 < (b ++ (l.drop j).flatMap putX).length then ([], 3) else (b ++ (l.drop j).flatMap putX, 0))
  | 0, j, b, hd, hj, hb => Ev.stp (fun k => by rw [musterref04_Put.l0]) (Ev.neg (by omega) (Ev.one (by rw [List.drop_of_length_le (by omega), List.flatMap_nil, List.append_nil, if_neg (by omega)])))
  | d + 1, j, b, hd, hj, hb => by
    have hlt : j < l.length := by omega
    have hx := h l[j] (List.getElem_mem hlt)
    rw [List.drop_eq_getElem_cons hlt, List.flatMap_cons, ← List.append_assoc]
    have hgo : Ev (goOn l (b ++ putX l[j]) j) (if 65000 < (b ++ putX l[j] ++ (l.drop (j + 1)).flatMap putX).length then ([], 3) else (b ++ putX l[j] ++ (l.drop (j + 1)).flatMap putX, 0)) := by
      unfold goOn
      by_cases hc : 65000 < (b ++ putX l[j]).length
      · rw [if_pos (by rw [List.length_append]; omega)]
        exact Ev.pos (by omega) (Ev.one rfl)
      · refine Ev.neg (by omega) ?_
        rw [wr1 (by omega)]
        exact rPut_l0 l h hl d (j + 1) (b ++ putX l[j]) (by omega) (by omega) (by omega)
    generalize (if 65000 < (b ++ putX l[j] ++ (l.drop (j + 1)).flatMap putX).length then (([] : List Int), (3 : Int)) else (b ++ putX l[j] ++ (l.drop (j + 1)).flatMap putX, 0)) = r at hgo ⊢
    refine Ev.stp (fun k => by rw [musterref04_Put.l0]) (Ev.pos (by omega) (Ev.pos (by omega) ?_))
    rw [rdF l j hlt]
    obtain ⟨x, ex⟩ : ∃ x, x = l[j] := ⟨_, rfl⟩
    rw [← ex] at hx hgo ⊢
    have hl2 : (b ++ [x.f0, x.f1]).length = b.length + 2 := by rw [List.length_append]; rfl
    refine Ev.sbnd (Ev.pos (show b.length + 2 < _ by omega) (Ev.sbnd ?_))
    unfold putX tailX at hgo
    rw [← List.append_assoc] at hgo
    rcases right_cases hx with ⟨e, _⟩ | ⟨e, _, hs⟩ | ⟨e, _, hs⟩ | ⟨e, _, hs, hs2⟩
    · rw [if_pos e] at hgo
      refine Ev.pos e ?_
      rw [refAdd8_f _ _ (by omega)]
      exact Ev.sbnd hgo
    · rw [if_neg (by omega), if_pos e] at hgo
      refine Ev.neg (by omega) (Ev.pos e ?_)
      rw [refAddText_f _ _ (by omega) hs]
      exact Ev.sbnd hgo
    · rw [if_neg (by omega), if_neg (by omega), if_pos e, ← List.append_assoc] at hgo
      refine Ev.neg (by omega) (Ev.neg (by omega) (Ev.pos e ?_))
      rw [u64_small _ (by omega), show musterref01_Add.f _ _ 2 = _ from refAdd_f _ _ 2 (by omega) (by omega) (by omega) (by omega) (by omega)]
      exact Ev.sbnd (rPut_l1 l x j r hs _ 0 _ rfl (Nat.zero_le _) (by rw [List.length_append, be_length]; omega) hgo)
    · rw [if_neg (by omega), if_neg (by omega), if_neg (by omega), if_pos e, ← List.append_assoc] at hgo
      refine Ev.neg (by omega) (Ev.neg (by omega) (Ev.neg (by omega) (Ev.pos e ?_)))
      rw [u64_small _ (by omega), show musterref01_Add.f _ _ 2 = _ from refAdd_f _ _ 2 (by omega) (by omega) (by omega) (by omega) (by omega)]
      exact Ev.sbnd (rPut_l2 l x j r hs2 hs _ 0 _ rfl (Nat.zero_le _) (by rw [List.length_append, be_length]; omega) hgo)
theorem be_one (n : Nat) (h : n ≤ 255) : be (n : Int) 1 = [(n : Int)] := by
  simp [be]
  omega
theorem rPut_ev (l : List Fl) (hm : ∀ x ∈ l, Mem9 x) : Ev (fun k => musterref04_Put.f k l) (putR l) := by
  unfold musterref04_Put.f
  refine Ev.bnd (rRight_ev l hm) ?_
  by_cases hr : rightL l = true
  · obtain ⟨hx, h64⟩ := rightL_mem hr
    rw [hr]
    refine Ev.pos rfl ?_
    rw [u64_small _ (by omega), show musterref01_Add.f [] _ 1 = _ from refAdd_f [] _ 1 (by omega) (by omega) (by omega) (by omega) (by simp)]
    refine Ev.sbnd ?_
    have := rPut_l0 l hx h64 _ 0 ([] ++ be (l.length : Int) 1) rfl (Nat.zero_le _) (by rw [List.nil_append, be_length]; omega)
    rw [List.nil_append, be_one _ (by omega), List.drop_zero] at this
    rw [List.nil_append, be_one _ (by omega)]
    unfold putR
    rw [if_pos hr]
    exact this
  · rw [Bool.not_eq_true] at hr
    rw [hr]
    refine Ev.neg (by decide) (Ev.one ?_)
    unfold putR
    rw [if_neg (by rw [hr]; decide)]
end Go.Proofs.Ytnhkbjihgepapaa.Fd

namespace Go.Proofs.Ytnhkbjihgepapaa.Fd
set_option linter.unusedVariables false
set_option linter.unusedSimpArgs false
open Go.RowKit Go.Proofs.YtnhkbjihgepapaaW.PrintWords Go.Proofs.YtnhkbjihgepapaaW.PrintLast Go.Proofs.YtnhkbjihgepapaaW.PrintMore Go.Proofs.Ytnhkbjihgepapaa.PF Go.Proofs.Ytnhkbjihgepapaa.Oct Go.Proofs.Ytnhkbjihgepapaa.EvK
attribute [local go_sem] max2_int min2_int max_two min_two max_three min_three max_four min_four
theorem putX_bytes {x : Fl} (hx : rightX x = true) (hw : Wf x) : Bts (putX x) := by
  have hk := kind_range hx
  have hN : ∀ ns : List Int, Bts (ns.flatMap encN) := fun ns z hz => by
    obtain ⟨n, _, h⟩ := List.mem_flatMap.1 hz
    exact be_bytes _ _ z h
  have hT : ∀ ts : List ByteArray, Bts (ts.flatMap encT) := fun ts z hz => by
    obtain ⟨n, _, h⟩ := List.mem_flatMap.1 hz
    exact bytes_append (be_bytes _ _) (bytesOf_bytes _) z h
  unfold putX
  refine bytes_append (fun z hz => ?_) ?_
  · rcases List.mem_cons.1 hz with rfl | hz
    · exact hw.1
    · rw [List.mem_singleton.1 hz]
      omega
  · unfold tailX
    split
    · exact be_bytes _ _
    · split
      · exact bytes_append (be_bytes _ _) (bytesOf_bytes _)
      · split
        · exact bytes_append (be_bytes _ _) (hN _)
        · split
          · exact bytes_append (be_bytes _ _) (hT _)
          · exact fun z hz => (List.not_mem_nil hz).elim
theorem putL_bytes {l : List Fl} (hr : rightL l = true) (hw : ∀ x ∈ l, Wf x) : Bts (putL l) := by
  have hm := rightL_mem hr
  unfold putL
  refine bytes_append (fun z hz => ?_) (fun z hz => ?_)
  · rw [List.mem_singleton.1 hz]
    omega
  · obtain ⟨x, hx, h⟩ := List.mem_flatMap.1 hz
    exact putX_bytes (hm.1 x hx) (hw x hx) z h
theorem putR_says (l : List Fl) : ((putR l).2 = 0 ∧ rightL l = true ∧ (putR l).1 = putL l ∧ (putL l).length ≤ 65000) ∨ ((putR l).2 = 3 ∧ rightL l = true ∧ (putR l).1 = []) ∨ ((putR l).2 = 2 ∧ rightL l = false ∧ (putR l).1 = []) := by
  unfold putR
  cases hr : rightL l with
  | true =>
    rw [if_pos rfl]
    split
    · exact Or.inr (Or.inl ⟨rfl, rfl, rfl⟩)
    · exact Or.inl ⟨rfl, rfl, rfl, by omega⟩
  | false => exact Or.inr (Or.inr ⟨rfl, rfl, rfl⟩)
theorem putR_bytes {l : List Fl} (hw : ∀ x ∈ l, Wf x) : Bts (putR l).1 := by
  rcases putR_says l with ⟨_, h, e, _⟩ | ⟨_, _, e⟩ | ⟨_, _, e⟩
  · rw [e]; exact putL_bytes h hw
  · rw [e]; exact fun z hz => (List.not_mem_nil hz).elim
  · rw [e]; exact fun z hz => (List.not_mem_nil hz).elim
theorem Put_calls (l : List Fl) (A : Option Addr) (c n : Nat) (hn : n = l.length) (w : World) (hr : Kd.C k30 w A l.length l) (hc : l.length ≤ c) (hl : l.length ≤ 9000000000000000) :
    Calls Try.prog 8 #[.slice A n c] w fun e w' => ∃ A' c', e = .returned (.tuple #[.slice A' (putR l).1.length c', .int .i64 (putR l).2]) ∧ (putR l).1.length ≤ c' ∧ Kd.C (Kd.int .u8) w' A' (putR l).1.length (putR l).1 ∧ Below w.heap.size w w' := by
  subst hn
  obtain ⟨k, hk⟩ := Ev.the (Put_ev l hl)
  refine (field_Put.calls k A c l (putR l).1 (putR l).2 w hr hc hk).mono ?_
  rintro e w' ⟨v, rfl, ho, hb⟩
  obtain ⟨A', c', rfl, h1, h2⟩ := Kd.R_reads ho
  exact ⟨A', c', rfl, h1, h2, hb⟩
theorem All_calls (b : List Int) (A : Option Addr) (c n : Nat) (hn : n = b.length) (w : World) (hr : Kd.C (Kd.int .u8) w A b.length b) (hc : b.length ≤ c) (hb : Bts b) (hl : b.length ≤ 140737488355328) :
    Calls Try.prog 11 #[.slice A n c] w fun e w' => ∃ A' c', e = .returned (.tuple #[.slice A' (allF b).1.length c', .int .i64 (allF b).2]) ∧ (allF b).1.length ≤ c' ∧ Kd.C k30 w' A' (allF b).1.length (allF b).1 ∧ Below w.heap.size w w' := by
  subst hn
  refine (all_calls A c b w hr hc (okBytes_iff.2 ⟨hl, hb⟩)).mono ?_
  rintro e w' ⟨v, rfl, ho, hb⟩
  obtain ⟨A', c', rfl, h1, h2⟩ := Kd.S_reads ho
  exact ⟨A', c', rfl, h1, h2, hb⟩
theorem Same_calls (l m : List Fl) (A : Option Addr) (c n : Nat) (hn : n = l.length) (A1 : Option Addr) (c1 n1 : Nat) (hn1 : n1 = m.length) (w : World) (hr : Kd.C k30 w A l.length l) (hc : l.length ≤ c) (hr1 : Kd.C k30 w A1 m.length m) (hc1 : m.length ≤ c1) (hl : l.length < 9000000000000000000) (hm : ∀ x ∈ l, Mem9 x) :
    Calls Try.prog 20 #[.slice A n c, .slice A1 n1 c1] w fun e w' => e = .returned (.bool (decide (l = m))) ∧ Below w.heap.size w w' := by
  subst hn hn1
  obtain ⟨k, hk⟩ := Ev.the (sameFs_ev l m hl hm)
  exact musterlow_SameFields.calls k A c l A1 c1 m _ w hr hc hr1 hc1 hk
theorem Bytes_calls (A : Option Addr) (c n : Nat) (l : List Int) (hn : n = l.length) (A1 : Option Addr) (c1 n1 : Nat) (m : List Int) (hn1 : n1 = m.length) (w : World) (hr : Kd.C (Kd.int .u8) w A l.length l) (hr1 : Kd.C (Kd.int .u8) w A1 m.length m) (hl : Bts l) (hm : Bts m) :
    Calls Try.prog 9 #[.slice A n c, .slice A1 n1 c1] w fun e w' => e = .returned (.bool (decide (l = m))) ∧ Below w.heap.size w w' := by
  subst hn hn1
  exact (Low.same_calls A c l A1 c1 m w hr hr1 hl hm).mono fun e w' h => ⟨h.1, h.2.below⟩
theorem awake_calls (w : World) : Calls Try.prog 13 #[] w fun e w' => e = .returned (.bool true) ∧ Below w.heap.size w w' := by
  obtain ⟨k, hk⟩ := Ev.the awake_ev
  exact musterlaw04_awake.calls k true w hk
theorem apart_bytes {l m : List Fl} (hr : rightL l = true) (hw : ∀ x ∈ l, Wf x) (hr' : rightL m = true) (hw' : ∀ x ∈ m, Wf x) (h : ¬ l = m) (k : Nat) (hk : k = (putL l).length ∨ k = (putL m).length) : ¬ (putL l).take k = (putL m).take k := by
  intro e
  rcases hk with hk | hk
  · rw [hk, List.take_length] at e
    have e' := List.take_append_drop (putL l).length (putL m)
    rw [← e] at e'
    exact h (putL_inj hr hw hr' hw' (z := (putL m).drop (putL l).length) (z' := []) (by rw [List.append_nil]; exact e'))
  · rw [hk, List.take_length] at e
    have e' := List.take_append_drop (putL m).length (putL l)
    rw [e] at e'
    exact h (putL_inj hr hw hr' hw' (z := []) (z' := (putL l).drop (putL m).length) (by rw [List.append_nil]; exact e'.symm))
def BK (w w' : World) : Prop := Below w.heap.size w w'
theorem BK.keep {w w1 w2 : World} (h : BK w w1) (hb : Below w1.heap.size w1 w2) : BK w w2 := below_then h h.size hb
set_option maxRecDepth 100000 in
set_option maxHeartbeats 8000000 in
theorem apart_law (l m : List Fl) (A0 : Option Addr) (c0 : Nat) (A1 : Option Addr) (c1 : Nat) (w : World) (hr0 : Kd.C k30 w A0 l.length l) (hc0 : l.length ≤ c0) (hr1 : Kd.C k30 w A1 m.length m) (hc1 : m.length ≤ c1) (hl : l.length ≤ 9000000000000000) (hm : m.length ≤ 9000000000000000) (wl : ∀ x ∈ l, Wf x ∧ Mem9 x) (wm : ∀ x ∈ m, Wf x ∧ Mem9 x) :
    Calls Try.prog 7 #[.slice A0 l.length c0, .slice A1 m.length c1] w fun e w' => e = .returned (.bool true) ∧ Below w.heap.size w w' := by
  obtain ⟨n0, hn0⟩ : ∃ n, n = l.length := ⟨_, rfl⟩
  obtain ⟨n1, hn1⟩ : ∃ n, n = m.length := ⟨_, rfl⟩
  have HP0 := Lib.hid (Put_calls l A0 c0 n0 hn0 w hr0 hc0 hl)
  have HP1 := Lib.hid (fun W (hb : Below w.heap.size w W) => Put_calls m A1 c1 n1 hn1 W (Kd.C_below hr1 hb) hc1 hm)
  have HSf := Lib.hid (fun W (hb : Below w.heap.size w W) => Same_calls l m A0 c0 n0 hn0 A1 c1 n1 hn1 W (Kd.C_below hr0 hb) hc0 (Kd.C_below hr1 hb) hc1 (by omega) (fun x hx => (wl x hx).2))
  have HS0 := Lib.hid (putR_says l)
  have HS1 := Lib.hid (putR_says m)
  have HB0 := Lib.hid (putR_bytes (fun x hx => (wl x hx).1))
  have HB1 := Lib.hid (putR_bytes (fun x hx => (wm x hx).1))
  have HW := Lib.hid (And.intro wl wm)
  rw [← hn0, ← hn1]
  clear hr0 hc0 hr1 hc1 hl hm wl wm hn0 hn1
  obtain ⟨X, hX⟩ : ∃ X, X = (putR l).1 := ⟨_, rfl⟩
  obtain ⟨ex, hex⟩ : ∃ X, X = (putR l).2 := ⟨_, rfl⟩
  obtain ⟨Y, hY⟩ : ∃ X, X = (putR m).1 := ⟨_, rfl⟩
  obtain ⟨ey, hey⟩ : ∃ X, X = (putR m).2 := ⟨_, rfl⟩
  rw [← hX, ← hex] at HP0 HS0
  rw [← hX] at HB0
  rw [← hY, ← hey] at HP1 HS1
  rw [← hY] at HB1
  obtain ⟨nX, hnX⟩ : ∃ n, n = X.length := ⟨_, rfl⟩
  obtain ⟨nY, hnY⟩ : ∃ n, n = Y.length := ⟨_, rfl⟩
  rw [← hnX] at HP0
  rw [← hnY] at HP1
  have HN := Lib.hid (And.intro hnX hnY)
  clear hX hex hY hey hnX hnY
  go_enter Try.func7, Try.ntmps7
  go_wp2_with fail
  refine HP0.out.mono ?_
  rintro e w1 ⟨AX, cX, rfl, hcX, hrX, hb⟩
  have HX := Lib.hid (And.intro hcX hrX)
  have HBa := Lib.hid hb
  clear hcX hrX hb HP0
  go_wp2_with fail
  refine (HP1.out w1 HBa.out).mono ?_
  rintro e w2 ⟨AY, cY, rfl, hcY, hrY, hb⟩
  have HY := Lib.hid (And.intro hcY hrY)
  have HX2 := Lib.hid (Kd.C_below HX.out.2 hb)
  have HBb := Lib.hid (below_then HBa.out HBa.out.size hb)
  clear hcY hrY hb HP1
  by_cases h00 : ex = 0 ∧ ey = 0
  case neg =>
    have hsum : 0 < ex + ey ∧ ex + ey ≤ 6 := by
      have h1 := HS0.out
      have h2 := HS1.out
      rcases h1 with ⟨h1, _⟩ | ⟨h1, _⟩ | ⟨h1, _⟩ <;> rcases h2 with ⟨h2, _⟩ | ⟨h2, _⟩ | ⟨h2, _⟩ <;> omega
    have hv : wrap64 (ex + ey) = ex + ey := by unfold wrap64; omega
    have hv2 : IntKind.i64.wrap (ex + ey) = ex + ey := by rw [IntKind.wrap_i64]; omega
    have hne : ((ex + ey) != 0) = true := by simp; omega
    have hne2 : ¬ ex + ey = 0 := by omega
    have HAw := Lib.hid (awake_calls w2)
    clear h00
    go_wp2_with fail
    refine HAw.out.mono ?_
    rintro e w3 ⟨rfl, hb⟩
    have HBc := Lib.hid (below_then HBb.out HBb.out.size hb)
    clear hb
    go_wp2
    go_ret
    exact ⟨rfl, HBc.out⟩
  obtain ⟨rfl, rfl⟩ := h00
  have HL0 : Hid (rightL l = true ∧ X = putL l) := Lib.hid (by
    rcases HS0.out with ⟨_, h1, h2, _⟩ | ⟨h, _⟩ | ⟨h, _⟩
    · exact ⟨h1, h2⟩
    · cases h
    · cases h)
  have HL1 : Hid (rightL m = true ∧ Y = putL m) := Lib.hid (by
    rcases HS1.out with ⟨_, h1, h2, _⟩ | ⟨h, _⟩ | ⟨h, _⟩
    · exact ⟨h1, h2⟩
    · cases h
    · cases h)
  have hw0 : wrap64 0 = 0 := by decide +kernel
  clear HS0 HS1
  go_wp2_with fail
  refine (HSf.out w2 HBb.out).mono ?_
  rintro e w3 ⟨rfl, hb⟩
  have HX3 := Lib.hid (Kd.C_below HX2.out hb)
  have HY3 := Lib.hid (Kd.C_below HY.out.2 hb)
  have HBc := Lib.hid (below_then HBb.out HBb.out.size hb)
  clear hb HSf
  by_cases hlm : l = m
  · have HXY : Hid (decide (X = Y) = true) := Lib.hid (decide_eq_true (by rw [HL0.out.2, HL1.out.2, hlm]))
    rw [decide_eq_true hlm]
    have HSb := Lib.hid (Bytes_calls AX cX nX X HN.out.1 AY cY nY Y HN.out.2 w3 (by rw [← HN.out.1]; exact HX3.out) (by rw [← HN.out.2]; exact HY3.out) HB0.out HB1.out)
    rw [HXY.out] at HSb
    clear hlm
    go_wp2_with fail
    refine HSb.out.mono ?_
    rintro e w4 ⟨rfl, hb⟩
    have HBd := Lib.hid (below_then HBc.out HBc.out.size hb)
    clear hb
    go_wp2_with fail
    refine (awake_calls w4).mono ?_
    rintro e w5 ⟨rfl, hb⟩
    have HBe := Lib.hid (below_then HBd.out HBd.out.size hb)
    clear hb
    go_wp2
    go_ret
    exact ⟨rfl, HBe.out⟩
  · rw [decide_eq_false hlm]
    have HLM := Lib.hid hlm
    clear hlm
    go_upto_region 8 with (fail)
    obtain ⟨k, hk, hkl, hk0, hk1⟩ : ∃ k : Nat, (if nY < nX then (nY : Int) else (nX : Int)) = (k : Int) ∧ (k = nX ∨ k = nY) ∧ k ≤ nX ∧ k ≤ nY := by
      by_cases h : nY < nX
      · exact ⟨nY, by rw [if_pos h], Or.inr rfl, by omega, Nat.le_refl _⟩
      · exact ⟨nX, by rw [if_neg h], Or.inl rfl, Nat.le_refl _, by omega⟩
    rw [hk]
    have HNE : Hid (decide (X.take k = Y.take k) = false) := Lib.hid (decide_eq_false (by
      have hx := HL0.out.2
      have hy := HL1.out.2
      rw [hx, hy]
      exact apart_bytes HL0.out.1 (fun x hx => (HW.out.1 x hx).1) HL1.out.1 (fun x hx => (HW.out.2 x hx).1) HLM.out k (by rw [← hx, ← hy, ← HN.out.1, ← HN.out.2]; exact hkl)))
    obtain ⟨i0, hi0, _, hz1, _⟩ := info_parts Low.info8
    have s1 := fun W => Low.cut_h (P := Try.prog) 22 5 Try.underlying22 hi0 hz1 AX nX cX k (by have := HX.out.1; have := HN.out.1; omega) W
    have s2 := fun W => Low.cut_h (P := Try.prog) 22 5 Try.underlying22 hi0 hz1 AY nY cY k (by have := HY.out.1; have := HN.out.2; omega) W
    have HSb := Lib.hid (fun (W : World) (hb : BK w3 W) => show Calls Try.prog 9 #[.slice AX k cX, .slice AY k cY] W fun e w' => e = .returned (.bool false) ∧ Below W.heap.size W w' by
      have h := Bytes_calls AX cX k (X.take k) (by rw [List.length_take, ← HN.out.1]; omega) AY cY k (Y.take k) (by rw [List.length_take, ← HN.out.2]; omega) W (by
        have := Low.take_C (Kd.C_below (by rw [HN.out.1] at HX3; exact HX3.out) hb) k (by rw [← HN.out.1]; exact hk0)
        rw [List.length_take, ← HN.out.1, Nat.min_eq_left hk0]
        exact this) (by
        have := Low.take_C (Kd.C_below (by rw [HN.out.2] at HY3; exact HY3.out) hb) k (by rw [← HN.out.2]; exact hk1)
        rw [List.length_take, ← HN.out.2, Nat.min_eq_left hk1]
        exact this) (fun x hx => HB0.out x (List.mem_of_mem_take hx)) (fun x hx => HB1.out x (List.mem_of_mem_take hx))
      rw [HNE.out] at h
      exact h)
    clear hk hkl hk0 hk1 hi0 hz1
    have hbk : BK w3 w3.drew := below_drew1 (Below.refl _ _)
    go_region_held3 (fun w' => BK w3 w')
      (first | exact BK.keep (by assumption) (by assumption) | exact BK.keep (by assumption) (below_drew1 (Below.refl _ _)) | exact hbk)
      (first
        | (go_at_call 9; refine (HSb.out _ (by assumption)).mono ?_; rintro e w5 ⟨rfl, hb5⟩)
        | (go_at_call 13; refine (awake_calls _).mono ?_; rintro e w6 ⟨rfl, hb6⟩))
    all_goals
      go_wp2
      go_ret
      exact ⟨rfl, below_then HBc.out HBc.out.size (by assumption)⟩
end Go.Proofs.Ytnhkbjihgepapaa.Fd

namespace Go.Proofs.Ytnhkbjihgepapaa.Fd
set_option linter.unusedVariables false
set_option linter.unusedSimpArgs false
open Go.RowKit Go.Proofs.YtnhkbjihgepapaaW.PrintWords Go.Proofs.YtnhkbjihgepapaaW.PrintLast Go.Proofs.YtnhkbjihgepapaaW.PrintMore Go.Proofs.Ytnhkbjihgepapaa.PF Go.Proofs.Ytnhkbjihgepapaa.Oct Go.Proofs.Ytnhkbjihgepapaa.EvK
theorem nsR_false (l : List Int) (k : Nat) (q : Int) (acc : List Int) : nsR l k q false acc = (acc, q, false) := by cases k <;> rfl
theorem tsR_false (l : List Int) (k : Nat) (q : Int) (acc : List ByteArray) : tsR l k q false acc = (acc, q, false) := by cases k <;> rfl
theorem nsR_of (l : List Int) : ∀ (k : Nat) (q : Int) (acc a : List Int) (r : Int), nsF l k q acc = some (a, r) → nsR l k q true acc = (a, r, true)
  | 0, q, acc, a, r, h => by
    unfold nsF at h
    obtain ⟨rfl, rfl⟩ := Prod.mk.inj (Option.some.inj h)
    rfl
  | k + 1, q, acc, a, r, h => by
    unfold nsF at h
    unfold nsR
    rw [if_pos rfl]
    split at h
    · rename_i hk
      rw [hk]
      exact nsR_of l k _ _ a r h
    · cases h
theorem tsR_of (l : List Int) : ∀ (k : Nat) (q : Int) (acc a : List ByteArray) (r : Int), tsF l k q acc = some (a, r) → tsR l k q true acc = (a, r, true)
  | 0, q, acc, a, r, h => by
    unfold tsF at h
    obtain ⟨rfl, rfl⟩ := Prod.mk.inj (Option.some.inj h)
    rfl
  | k + 1, q, acc, a, r, h => by
    unfold tsF at h
    unfold tsR
    rw [if_pos rfl]
    split at h
    · rename_i hk
      rw [hk]
      exact tsR_of l k _ _ a r h
    · cases h
/-- Where field.All reads a field of a kind that there is, the document reads the same. -/
theorem one_of {l : List Int} {p : Int} (h0 : 0 ≤ p) {x : Fl} {q : Int} (h : oneF l p = some (x, q)) (h1 : 1 ≤ x.f1) (h4 : x.f1 ≤ 4) : oneR l p = (x, q, true) := by
  unfold oneF at h
  split at h
  case isFalse => cases h
  split at h
  case isFalse => cases h
  rename_i hk1 hk
  unfold oneR
  rw [if_pos hk]
  unfold bodyF at h
  generalize nv l (p + 1) 1 = kd at h ⊢
  generalize nv l p 1 = t at h ⊢
  split at h
  · rename_i e
    subst e
    split at h
    case isFalse => cases h
    rename_i hn
    obtain ⟨rfl, rfl⟩ := Prod.mk.inj (Option.some.inj h)
    rw [if_pos rfl, hn, show p + 2 + 8 = p + 10 by omega]
  · rename_i e1
    rw [if_neg e1]
    split at h
    · rename_i e
      subst e
      split at h
      case isFalse => cases h
      rename_i hn
      obtain ⟨rfl, rfl⟩ := Prod.mk.inj (Option.some.inj h)
      rw [if_pos rfl, hn]
    · rename_i e2
      rw [if_neg e2]
      split at h
      · rename_i e
        subst e
        split at h
        case isFalse => cases h
        rename_i hn
        split at h
        case h_2 => cases h
        rename_i r hr
        obtain ⟨rfl, rfl⟩ := Prod.mk.inj (Option.some.inj h)
        rw [if_pos rfl, hn, show p + 4 = p + 2 + 2 by omega, nsR_of l _ _ _ r.1 r.2 hr]
      · rename_i e3
        rw [if_neg e3]
        split at h
        · rename_i e
          subst e
          split at h
          case isFalse => cases h
          rename_i hn
          split at h
          case h_2 => cases h
          rename_i r hr
          obtain ⟨rfl, rfl⟩ := Prod.mk.inj (Option.some.inj h)
          rw [if_pos rfl, hn, show p + 4 = p + 2 + 2 by omega, tsR_of l _ _ _ r.1 r.2 hr]
        · rename_i e4
          obtain ⟨rfl, rfl⟩ := Prod.mk.inj (Option.some.inj h)
          simp only at h1 h4
          omega
theorem nsR_rng (l : List Int) : ∀ (k : Nat) (q : Int) (o : Bool) (acc : List Int), 0 ≤ q → (o = true → q ≤ l.length) → (nsR l k q o acc).2.2 = true → 0 ≤ (nsR l k q o acc).2.1 ∧ (nsR l k q o acc).2.1 ≤ l.length
  | 0, q, o, acc, h0, h1, h => ⟨h0, h1 h⟩
  | k + 1, q, o, acc, h0, h1, h => by
    unfold nsR at h ⊢
    split at h
    · rename_i ho
      rw [if_pos ho]
      exact nsR_rng l k _ _ _ (by omega) (fun e => by have := nok_len e; omega) h
    · rename_i ho
      exact absurd h ho
theorem tsR_rng {l : List Int} (hb : Bts l) : ∀ (k : Nat) (q : Int) (o : Bool) (acc : List ByteArray), 0 ≤ q → (o = true → q ≤ l.length) → (tsR l k q o acc).2.2 = true → 0 ≤ (tsR l k q o acc).2.1 ∧ (tsR l k q o acc).2.1 ≤ l.length
  | 0, q, o, acc, h0, h1, h => ⟨h0, h1 h⟩
  | k + 1, q, o, acc, h0, h1, h => by
    unfold tsR at h ⊢
    split at h
    · rename_i ho
      rw [if_pos ho]
      have := tend_nn hb q
      exact tsR_rng hb k _ _ _ this.1 (fun e => this.2) h
    · rename_i ho
      exact absurd h ho
theorem one_rng {l : List Int} (hb : Bts l) {p : Int} (h0 : 0 ≤ p) (h : (oneR l p).2.2 = true) : 0 ≤ (oneR l p).2.1 ∧ (oneR l p).2.1 ≤ l.length := by
  unfold oneR at h ⊢
  by_cases hk : nok l (p + 1) 1 = true
  case neg => rw [if_neg hk] at h; cases h
  rw [if_pos hk] at h ⊢
  by_cases e1 : nv l (p + 1) 1 = 1
  · rw [if_pos e1] at h ⊢
    have := nok_len (show nok l (p + 2) 8 = true from h)
    exact ⟨show 0 ≤ p + 10 by omega, show p + 10 ≤ _ by omega⟩
  rw [if_neg e1] at h ⊢
  by_cases e2 : nv l (p + 1) 1 = 2
  · rw [if_pos e2]
    exact tend_nn hb _
  rw [if_neg e2] at h ⊢
  by_cases e3 : nv l (p + 1) 1 = 3
  · rw [if_pos e3] at h ⊢
    exact nsR_rng l _ _ _ _ (by omega) (fun e => by have := nok_len e; omega) h
  rw [if_neg e3] at h ⊢
  by_cases e4 : nv l (p + 1) 1 = 4
  · rw [if_pos e4] at h ⊢
    exact tsR_rng hb _ _ _ _ (by omega) (fun e => by have := nok_len e; omega) h
  rw [if_neg e4] at h
  cases h
theorem nsR_good (l : List Int) : ∀ (k : Nat) (q : Int) (o : Bool) (acc : List Int), (∀ n ∈ acc, I64r n) → (∀ n ∈ (nsR l k q o acc).1, I64r n) ∧ (nsR l k q o acc).1.length ≤ acc.length + k
  | 0, q, o, acc, h => ⟨h, Nat.le_refl _⟩
  | k + 1, q, o, acc, h => by
    unfold nsR
    split
    · have := nsR_good l k (q + 8) (nok l q 8) (acc ++ [i64 (nv l q 8)]) (fun n hn => by
        rcases List.mem_append.1 hn with h' | h'
        · exact h n h'
        · rw [List.mem_singleton.1 h']; exact i64_range _)
      rw [List.length_append] at this
      exact ⟨this.1, by have := this.2; simp only [List.length_cons, List.length_nil] at this; omega⟩
    · exact ⟨h, by show acc.length ≤ _; omega⟩
theorem tsR_good (l : List Int) : ∀ (k : Nat) (q : Int) (o : Bool) (acc : List ByteArray), (tsR l k q o acc).1.length ≤ acc.length + k
  | 0, q, o, acc => Nat.le_refl _
  | k + 1, q, o, acc => by
    unfold tsR
    split
    · have := tsR_good l k (tend l q) (tok l q) (acc ++ [strOfNums (txt l q)])
      rw [List.length_append] at this
      simp only [List.length_cons, List.length_nil] at this
      omega
    · show acc.length ≤ _
      omega
theorem one_good {l : List Int} (hb : Bts l) (p : Int) : Wf (oneR l p).1 ∧ Mem9 (oneR l p).1 := by
  have ht := nv_range l hb p 1
  have hn := nv_range l hb (p + 2) 2
  have t1 : 0 ≤ nv l p 1 ∧ nv l p 1 ≤ 255 := by omega
  have z : I64r 0 := by unfold I64r; omega
  have g3 := nsR_good l (nv l (p + 2) 2).toNat (p + 4) (nok l (p + 2) 2) [] (fun n hn => (List.not_mem_nil hn).elim)
  have g4 := tsR_good l (nv l (p + 2) 2).toNat (p + 4) (nok l (p + 2) 2) []
  rw [List.length_nil] at g3 g4
  unfold oneR Wf Mem9
  repeat' split
  · exact ⟨⟨t1, i64_range _, fun n hn => (List.not_mem_nil hn).elim⟩, by simp⟩
  · exact ⟨⟨t1, z, fun n hn => (List.not_mem_nil hn).elim⟩, by simp⟩
  · exact ⟨⟨t1, z, g3.1⟩, ⟨show (nsR l (nv l (p + 2) 2).toNat (p + 4) (nok l (p + 2) 2) []).1.length < _ by omega, by simp⟩⟩
  · exact ⟨⟨t1, z, fun n hn => (List.not_mem_nil hn).elim⟩, ⟨by simp, show (tsR l (nv l (p + 2) 2).toNat (p + 4) (nok l (p + 2) 2) []).1.length < _ by omega⟩⟩
  · exact ⟨⟨t1, z, fun n hn => (List.not_mem_nil hn).elim⟩, by simp⟩
  · exact ⟨⟨t1, z, fun n hn => (List.not_mem_nil hn).elim⟩, by simp⟩
def refL (l : List Int) : Nat → Int → List Fl → Option (List Fl)
  | 0, p, acc => some acc
  | k + 1, p, acc => if (oneR l p).2.2 = true then refL l k (oneR l p).2.1 (acc ++ [(oneR l p).1]) else none
def refJ (l : List Int) : Option (List Fl) → List Fl × Int
  | some m => if putR m = (l, 0) then (m, 0) else ([], 40)
  | none => ([], 40)
theorem refL_good {l : List Int} (hb : Bts l) : ∀ (k : Nat) (p : Int) (acc m : List Fl), (∀ x ∈ acc, Wf x) → refL l k p acc = some m → ∀ x ∈ m, Wf x
  | 0, p, acc, m, ha, h => by
    obtain rfl := Option.some.inj h
    exact ha
  | k + 1, p, acc, m, ha, h => by
    unfold refL at h
    split at h
    case isFalse => cases h
    refine refL_good hb k _ _ m (fun x hx => ?_) h
    rcases List.mem_append.1 hx with h' | h'
    · exact ha x h'
    · rw [List.mem_singleton.1 h']; exact (one_good hb p).1
theorem all_pre (l : List Int) : ∀ (k : Nat) (p : Int) (acc : List Fl) (r : List Fl × Int), allL l k p acc = some r → ∀ x ∈ acc, x ∈ r.1
  | 0, p, acc, r, h => by
    obtain rfl := Option.some.inj h
    exact fun x hx => hx
  | k + 1, p, acc, r, h => by
    unfold allL at h
    split at h
    · exact fun x hx => all_pre l k _ _ r h x (List.mem_append_left _ hx)
    · cases h
theorem all_ref {l : List Int} (hb : Bts l) : ∀ (k : Nat) (p : Int) (acc : List Fl) (r : List Fl × Int), 0 ≤ p → allL l k p acc = some r → (∀ x ∈ r.1, 1 ≤ x.f1 ∧ x.f1 ≤ 4) → refL l k p acc = some r.1
  | 0, p, acc, r, h0, h, hk => by
    obtain rfl := Option.some.inj h
    rfl
  | k + 1, p, acc, r, h0, h, hk => by
    unfold allL at h
    split at h
    case h_2 => cases h
    rename_i s hs
    have hm := hk s.1 (all_pre l k _ _ r h s.1 (List.mem_append_right _ (List.mem_singleton.2 rfl)))
    have ho := one_of h0 (show oneF l p = some (s.1, s.2) from hs) hm.1 hm.2
    have hr := one_rng hb h0 (by rw [ho])
    unfold refL
    rw [ho] at hr ⊢
    rw [if_pos rfl]
    exact all_ref hb k _ _ r hr.1 h hk
theorem ref_eq {l : List Int} (hb : Bts l) (hl : 0 < l.length) : refJ l (refL l (rd l 0).toNat 1 []) = allF l := by
  rcases allF_says l with h | h
  · obtain ⟨m, hm⟩ : ∃ m, allF l = (m, 0) := ⟨(allF l).1, by rw [← h]⟩
    obtain ⟨h1, h2, h3, h4⟩ := allF_seg hb hm
    have hr := read_put h1 h2 []
    rw [List.append_nil, h3] at hr
    have this : refL l (rd l 0).toNat 1 [] = some m := all_ref hb _ _ _ _ (by omega) hr (fun x hx => kind_range ((rightL_mem h1).1 x hx))
    rw [this, hm]
    show (if putR m = (l, 0) then (m, (0 : Int)) else ([], 40)) = (m, 0)
    rw [if_pos (by unfold putR; rw [if_pos h1, h3, if_neg (by omega)])]
  · rw [h]
    cases hr : refL l (rd l 0).toNat 1 [] with
    | none => rfl
    | some m =>
      unfold refJ
      simp only
      by_cases hp : putR m = (l, 0)
      case neg => rw [if_neg hp]
      have hw := refL_good hb _ _ _ m (fun x hx => (List.not_mem_nil hx).elim) hr
      unfold putR at hp
      split at hp
      · rename_i hR
        split at hp
        · cases (Prod.mk.inj hp).2
        · rename_i hlen
          have e := (Prod.mk.inj hp).1
          have := allF_put hR hw (by omega)
          rw [e, h] at this
          cases (Prod.mk.inj this).2
      · cases (Prod.mk.inj hp).2
theorem same_strs {a b : List Int} (ha : Bts a) (hb : Bts b) : ((strOfNums a).toList == (strOfNums b).toList) = decide (a = b) := by
  by_cases h : a = b
  · subst h
    rw [decide_eq_true rfl]
    exact beq_self_eq_true _
  · rw [decide_eq_false h]
    refine beq_eq_false_iff_ne.2 (fun e => h ?_)
    have := congrArg bytesOf (toL_inj e)
    rwa [str_bytes ha, str_bytes hb] at this
theorem one_f {l : List Int} (hb : Bts l) (hl : l.length ≤ 140737488355328) {p : Int} (h0 : 0 ≤ p) (h1 : p ≤ 1000000000000000000) : musterref04_one.f l p = some ((oneR l p).1.f0, (oneR l p).1.f1, (oneR l p).1.f2, (oneR l p).1.f3, (oneR l p).1.f4, (oneR l p).1.f5, (oneR l p).2.1, (oneR l p).2.2) := by
  unfold musterref04_one.f
  rw [if_pos (okOne_iff.2 ⟨hl, hb, h0, h1⟩)]
theorem rAll_l0 {l : List Int} (hb : Bts l) (hl : l.length ≤ 140737488355328) (hp : 0 < l.length) (n : Nat) (hn : rd l 0 = n) (hn2 : n ≤ 255) : ∀ d i p (acc : List Fl), n - i = d → i ≤ n → acc.length ≤ i → 0 ≤ p → p ≤ 1000000000000000000 → (∀ x ∈ acc, Wf x ∧ Mem9 x) → Ev (fun k => musterref04_All.l0 k l acc p (i : Int)) (refJ l (refL l d p acc))
  | 0, i, p, acc, hd, hi, ha, h0, h1, hg => by
    refine Ev.stp (fun k => by rw [musterref04_All.l0]) (Ev.pos (by omega) ?_)
    rw [hn, show wrap64 (n : Int) = n by unfold wrap64; omega]
    refine Ev.neg (by omega) (Ev.bnd (rPut_ev acc (fun x hx => (hg x hx).2)) ?_)
    have hbp := putR_bytes (fun x hx => (hg x hx).1)
    unfold refL refJ
    simp only
    by_cases he : (putR acc).2 = 0
    · refine Ev.pos he ?_
      unfold musterlow_SameBytes.f
      rw [same_strs hbp hb]
      refine Ev.sbnd ?_
      by_cases hs : (putR acc).1 = l
      · rw [decide_eq_true hs, if_pos (Prod.ext hs he)]
        exact Ev.pos rfl (Ev.one rfl)
      · rw [decide_eq_false hs, if_neg (c := putR acc = (l, 0)) (fun e => hs (by rw [e]))]
        exact Ev.neg (by decide) (Ev.one rfl)
    · rw [if_neg (c := putR acc = (l, 0)) (fun e => he (by rw [e]))]
      exact Ev.neg he (Ev.one rfl)
  | d + 1, i, p, acc, hd, hi, ha, h0, h1, hg => by
    refine Ev.stp (fun k => by rw [musterref04_All.l0]) (Ev.pos (by omega) ?_)
    rw [hn, show wrap64 (n : Int) = n by unfold wrap64; omega]
    refine Ev.pos (by omega) ?_
    rw [one_f hb hl h0 h1]
    refine Ev.sbnd ?_
    unfold refL
    by_cases ho : (oneR l p).2.2 = true
    · have hr := one_rng hb h0 ho
      rw [if_pos ho]
      refine Ev.pos ho (Ev.pos (by omega) ?_)
      rw [wr1 (by omega)]
      exact rAll_l0 hb hl hp n hn hn2 d (i + 1) _ _ (by omega) (by omega) (by rw [List.length_append]; simp only [List.length_cons, List.length_nil]; omega) hr.1 (show (oneR l p).2.1 ≤ 1000000000000000000 by omega) (fun x hx => by
        rcases List.mem_append.1 hx with h' | h'
        · exact hg x h'
        · rw [List.mem_singleton.1 h']; exact one_good hb p)
    · rw [if_neg ho]
      exact Ev.neg ho (Ev.one rfl)
theorem rAll_ev {l : List Int} (hb : Bts l) (hl : l.length ≤ 140737488355328) : Ev (fun k => musterref04_All.f k l) (allF l) := by
  unfold musterref04_All.f
  by_cases h : l.length = 0
  · refine Ev.pos (by omega) (Ev.one ?_)
    unfold allF
    rw [if_pos (Or.inl h)]
  · refine Ev.neg (by omega) ?_
    rw [← ref_eq hb (by omega)]
    have hr : 0 ≤ rd l 0 ∧ rd l 0 ≤ 255 := by
      rw [show (0 : Int) = ((0 : Nat) : Int) from rfl, rd_nat l 0 (by omega)]
      exact hb _ (List.getElem_mem _)
    exact rAll_l0 hb hl (by omega) (rd l 0).toNat (by omega) (by omega) _ 0 1 [] rfl (Nat.zero_le _) (Nat.le_refl _) (by omega) (by omega) (fun x hx => (List.not_mem_nil hx).elim)
end Go.Proofs.Ytnhkbjihgepapaa.Fd

namespace Go.Proofs.Ytnhkbjihgepapaa.Fd
set_option linter.unusedVariables false
set_option linter.unusedSimpArgs false
open Go.RowKit Go.Proofs.YtnhkbjihgepapaaW.PrintWords Go.Proofs.YtnhkbjihgepapaaW.PrintLast Go.Proofs.YtnhkbjihgepapaaW.PrintMore Go.Proofs.Ytnhkbjihgepapaa.PF Go.Proofs.Ytnhkbjihgepapaa.Oct Go.Proofs.Ytnhkbjihgepapaa.EvK
attribute [local go_sem] max2_int min2_int max_two min_two max_three min_three max_four min_four
theorem refAll_calls (b : List Int) (m : List Fl) (e : Int) (h : allF b = (m, e)) (A : Option Addr) (c n : Nat) (hn : n = b.length) (k : Nat) (hk : k = m.length) (w : World) (hr : Kd.C (Kd.int .u8) w A b.length b) (hc : b.length ≤ c) (hb : Bts b) (hl : b.length ≤ 140737488355328) :
    Calls Try.prog 22 #[.slice A n c] w fun o w' => ∃ A' c', o = .returned (.tuple #[.slice A' k c', .int .i64 e]) ∧ k ≤ c' ∧ Kd.C k30 w' A' m.length m ∧ Below w.heap.size w w' := by
  subst hn hk
  obtain ⟨k, hk⟩ := Ev.the (rAll_ev hb hl)
  rw [h] at hk
  refine (musterref04_All.calls k A c b m e w hr hc hk).mono ?_
  rintro o w' ⟨v, rfl, ho, hb⟩
  obtain ⟨A', c', rfl, h1, h2⟩ := Kd.S_reads ho
  exact ⟨A', c', rfl, h1, h2, hb⟩
theorem AllX_calls (b : List Int) (m : List Fl) (e : Int) (h : allF b = (m, e)) (A : Option Addr) (c n : Nat) (hn : n = b.length) (k : Nat) (hk : k = m.length) (w : World) (hr : Kd.C (Kd.int .u8) w A b.length b) (hc : b.length ≤ c) (hb : Bts b) (hl : b.length ≤ 140737488355328) :
    Calls Try.prog 11 #[.slice A n c] w fun o w' => ∃ A' c', o = .returned (.tuple #[.slice A' k c', .int .i64 e]) ∧ k ≤ c' ∧ Kd.C k30 w' A' m.length m ∧ Below w.heap.size w w' := by
  subst hk
  refine (All_calls b A c n hn w hr hc hb hl).mono ?_
  rw [h]
  exact fun e w' h => h
theorem allF_mem {b : List Int} (hb : Bts b) {m : List Fl} {e : Int} (h : allF b = (m, e)) : m.length ≤ 64 ∧ ∀ x ∈ m, Mem9 x := by
  rcases allF_says b with hf | hf
  · rw [h] at hf
    simp only at hf
    subst hf
    obtain ⟨h1, h2, h3, h4⟩ := allF_seg hb h
    refine ⟨(rightL_mem h1).2, fun x hx => ?_⟩
    unfold Mem9
    rcases right_cases ((rightL_mem h1).1 x hx) with ⟨_, ex⟩ | ⟨_, ex, _⟩ | ⟨_, ex, hs⟩ | ⟨_, ex, hs, _⟩
    · rw [ex]; simp
    · rw [ex]; simp
    · refine ⟨by omega, ?_⟩
      rw [ex]; simp
    · refine ⟨?_, by omega⟩
      rw [ex]; simp
  · rw [h] at hf
    obtain ⟨rfl, rfl⟩ := Prod.mk.inj hf
    exact ⟨Nat.zero_le _, fun x hx => (List.not_mem_nil hx).elim⟩
set_option maxRecDepth 100000 in
set_option maxHeartbeats 8000000 in
theorem reads_law (b : List Int) (A0 : Option Addr) (c0 : Nat) (w : World) (hr0 : Kd.C (Kd.int .u8) w A0 b.length b) (hc0 : b.length ≤ c0) (hb : Bts b) :
    Calls Try.prog 5 #[.slice A0 b.length c0] w fun e w' => e = .returned (.bool true) ∧ Below w.heap.size w w' := by
  obtain ⟨n0, hn0⟩ : ∃ n, n = b.length := ⟨_, rfl⟩
  obtain ⟨m, ex, hall⟩ : ∃ X ex, allF b = (X, ex) := ⟨_, _, rfl⟩
  obtain ⟨nm, hnm⟩ : ∃ n, n = m.length := ⟨_, rfl⟩
  have hmem := allF_mem hb hall
  by_cases hbig : 70000 < n0
  · rw [← hn0]
    have h1 : (70000 : Int) < (n0 : Int) := by omega
    clear hn0 hr0 hc0 hb hall hnm hmem
    go_enter Try.func5, Try.ntmps5
    go_wp2_with fail
    refine (awake_calls w).mono ?_
    rintro e w13 ⟨rfl, hb⟩
    have HBm := Lib.hid hb
    clear hb
    go_wp2
    go_ret
    exact ⟨rfl, HBm.out⟩
  · have HL := Lib.hid (show Calls Try.prog 21 #[.slice A0 n0 c0] w fun e w' => ∃ ad cap, e = .returned (.slice (some ad) n0 cap) ∧ Low.Lent w' ad cap b ∧ Below w.heap.size w w' by
      rw [hn0]
      exact Low.lent_calls A0 c0 b w hr0 (by omega))
    have HK := Lib.hid (fun W (hB : Below w.heap.size w W) ad cap (h : Low.Lent W ad cap b) => show Calls Try.prog 23 #[.slice (some ad) n0 cap, .slice A0 n0 c0] W fun e w' => e = .returned (.bool true) ∧ Drawn0 W w' by
      rw [hn0]
      exact Low.kept_calls ad cap A0 c0 b W h (Kd.C_below hr0 hB) hb (by omega))
    have HA := Lib.hid (fun A c W hr (hc : b.length ≤ c) => AllX_calls b m ex hall A c n0 hn0 nm hnm W hr hc hb (by omega))
    have HAr := Lib.hid (fun W (hB : Below w.heap.size w W) => refAll_calls b m ex hall A0 c0 n0 hn0 nm hnm W (Kd.C_below hr0 hB) hc0 hb (by omega))
    have HSf := Lib.hid (fun W (A : Option Addr) (c : Nat) (B : Option Addr) (d : Nat) (hr : Kd.C k30 W A m.length m) (hc : m.length ≤ c) (hs : Kd.C k30 W B m.length m) (hd : m.length ≤ d) => show Calls Try.prog 20 #[.slice A nm c, .slice B nm d] W fun e w' => e = .returned (.bool true) ∧ Below W.heap.size W w' by
      have h := Same_calls m m A c nm hnm B d nm hnm W hr hc hs hd (by have := hmem.1; omega) hmem.2
      rw [decide_eq_true rfl] at h
      exact h)
    have HN := Lib.hid (And.intro hn0 hnm)
    rw [← hn0]
    have h1 : ¬ (70000 : Int) < (n0 : Int) := by omega
    clear hr0 hc0 hb hall hnm hmem hn0 hbig
    go_enter Try.func5, Try.ntmps5
    go_wp2_with fail
    refine HL.out.mono ?_
    rintro e w1 ⟨ad, cap, rfl, hL, hb⟩
    have HLe := Lib.hid hL
    have HBa := Lib.hid hb
    clear hL hb HL
    go_wp2_with fail
    refine (HA.out (some ad) cap w1 HLe.out.reads (by have := HLe.out.1; omega)).mono ?_
    rintro e w2 ⟨AM, cM, rfl, hcM, hrM, hb⟩
    have HcM : Hid (m.length ≤ cM) := Lib.hid (by rw [← HN.out.2]; exact hcM)
    have HM := Lib.hid hrM
    have HLe2 := Lib.hid (HLe.out.below hb)
    have HBb := Lib.hid (below_then HBa.out HBa.out.size hb)
    clear hcM hrM hb HA HLe
    go_wp2_with fail
    refine (HAr.out w2 HBb.out).mono ?_
    rintro e w3 ⟨AR, cR, rfl, hcR, hrR, hb⟩
    have HcR : Hid (m.length ≤ cR) := Lib.hid (by rw [← HN.out.2]; exact hcR)
    have HR := Lib.hid hrR
    have HM3 := Lib.hid (Kd.C_below HM.out hb)
    have HLe3 := Lib.hid (HLe2.out.below hb)
    have HBc := Lib.hid (below_then HBb.out HBb.out.size hb)
    clear hcR hrR hb HAr HLe2 HM
    go_wp2_with fail
    refine (HSf.out w3 AM cM AR cR HM3.out HcM.out HR.out HcR.out).mono ?_
    rintro e w4 ⟨rfl, hb⟩
    have HLe4 := Lib.hid (HLe3.out.below hb)
    have HBd := Lib.hid (below_then HBc.out HBc.out.size hb)
    clear hb HSf HLe3
    go_wp2_with fail
    refine (HK.out w4 HBd.out ad cap HLe4.out).mono ?_
    rintro e w5 ⟨rfl, hd⟩
    have HBe := Lib.hid (below_then HBd.out HBd.out.size hd.below)
    clear hd
    go_wp2_with fail
    refine (awake_calls w5).mono ?_
    rintro e w13 ⟨rfl, hb⟩
    have HBm := Lib.hid (below_then HBe.out HBe.out.size hb)
    clear hb
    go_wp2
    go_ret
    exact ⟨rfl, HBm.out⟩
end Go.Proofs.Ytnhkbjihgepapaa.Fd

namespace Go.Proofs.Ytnhkbjihgepapaa.PF.FieldReadsOpen
set_option linter.unusedVariables false
set_option linter.unusedSimpArgs false
open Go.RowKit Go.Proofs.YtnhkbjihgepapaaW.PrintWords Go.Proofs.Ytnhkbjihgepapaa.Open Go.Proofs.Ytnhkbjihgepapaa.PF
end Go.Proofs.Ytnhkbjihgepapaa.PF.FieldReadsOpen

namespace Go.Proofs.Ytnhkbjihgepapaa.fieldReads
open Go.ChangeShapes Go.WideShapes Go.ChangeAt Go.RowKit Go.Proofs.Ytnhkbjihgepapaa.Open Go.Proofs.Ytnhkbjihgepapaa.PF.FieldReadsOpen

open Go.ChangeMaps (open_string shut_string)
set_option linter.unusedVariables false
theorem own : ownKnob Try.prog.godebug = none := by kernel_rfl
theorem laidOut : laidOutB Try.prog = true := by kernel_rfl
set_option maxRecDepth 100000 in
theorem lifted (os : Os) (started : os.Started) (H : Type) (enc : TypeId × Value → H) :
    ReturnsInHanded {} Try.checked os 5 .any (Rows.fieldReadsSpec.pre6 enc Try.prog Try.f5 Rows.fieldReadsRow.domain false) (Rows.fieldReadsSpec.post enc Try.prog Try.f5 false true false false) := by
  refine returnsInHanded_of_change_sized (C := Try.checked) own started (by kernel_rfl) Try.func5
    (ChangeSpec.witness6 (enc := enc) (C := Try.checked) false ⟨#[], #[.slice none 0 0], []⟩ 8 (by kernel_rfl) (by kernel_rfl) (by kernel_rfl) (by kernel_rfl)) ?_
  intro W base args ds gs before hval0 hW hcnd hsz0 _
  have hsz : (DataW.weightsEach Try.prog (Try.f5.params.toList ++ Rows.fieldReadsSpec.plain.varTypes Try.prog) (ds ++ gs)).all (· ≤ reachBytes) = true := hsz0
  have hval : ∀ (j : Nat) t v, Try.f5.params[j]? = some t → args[j]? = some v → Value.okWide Try.prog W .any base t v := hval0
  have hW' := hW
  obtain ⟨p, q, hA0, hV, rfl, hfz, hnd⟩ := hW
  have hA : DataW.TrodAll enc Try.prog W 0 (fun _ => true) true Try.f5.params.toList args.toList ds p := hA0
  rw [Try.params5] at hA hval hsz
  obtain ⟨v0, vs0, d0, ds0, p0, q0, hargs, rfl, rfl, h0, r0⟩ := trodAll_cons hA
  obtain ⟨rfl, rfl, rfl⟩ := trodAll_nil r0
  obtain rfl : args = #[v0] := by cases args; simp_all
  obtain ⟨rfl, rfl⟩ := trodVars_none hV
  have k0 := h0
  have lt0 : ∀ x ∈ p0, x.block < W.heap.size := by obtain ⟨m, hm⟩ := k0; exact DataW.trod_lt m _ _ _ hm
  obtain ⟨x0, K0, w0⟩ := Opens.arg (o_slice Try.underlying22 (by kernel_rfl) 1 (by kernel_rfl) (o_int Try.underlying5 (by kernel_rfl))) hsz (j := 0) rfl rfl h0
  obtain ⟨a0, len0, cap0, rfl⟩ := okWide_slice Try.underlying22 (hval 0 22 v0 rfl rfl)
  obtain ⟨A0, c0, e0, hc0, hr0⟩ := K0
  simp [Value.cells] at e0
  obtain ⟨rfl, rfl, rfl⟩ := e0
  clear hA0 hval0 hsz0 hsz
  refine (Fd.reads_law x0 _ _ W hr0 hc0 (fun z hz => Low.wf_u8 (w0.2 z hz))).mono fun e W' ⟨he, bel0⟩ => ?_
  have bel : Below W.heap.size W W' := bel0
  subst he
  exact ⟨_, rfl, _, _, _, [], _, [], hW', trodAll_mk1 (shut_bool Try.underlying4 _), (trodAll_cons_mk (Below.trod laidOut (by kernel_rfl) (of_decide_eq_true (by kernel_rfl)) k0 bel lt0) trodAll_mk0), rfl, bel.frame _, fun h => by cases h⟩
theorem over : Rows.fieldReadsRow.holds Try.pinned (OpenSpec.ofChange Rows.fieldReadsSpec) :=
  OpenClaim.holds_of_wide 5 Try.f5 rfl rfl rfl rfl rfl rfl rfl ⟨rfl, rfl, rfl, rfl, rfl⟩ rfl rfl rfl rfl rfl (by kernel_rfl) Try.func5 (by kernel_rfl)
    (of_decide_eq_true (by kernel_rfl)) (by unfold Func.isWrapper; first | (rw [if_pos (by decide +kernel)]; kernel_rfl) | (rw [if_neg (by decide +kernel)]; exact ⟨rfl, rfl⟩))
    (fun os started H enc _ => lifted os started H enc)
theorem proved : Rows.FieldReadsSaid := over
#print axioms proved
end Go.Proofs.Ytnhkbjihgepapaa.fieldReads
namespace Go.Proofs.Ytnhkbjihgepapaa
/-- The row, under a short name, for the claim. -/
theorem fieldReads_holds : Rows.FieldReadsSaid := fieldReads.proved
end Go.Proofs.Ytnhkbjihgepapaa
