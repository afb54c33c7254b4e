-- printed by wprint.py (this session's program over the kit's print.py)
import Derived.Test.YthcikldhlohjbaaPSx0
import Derived.Test.YthcikldhlohjbaaPSx6
namespace Go.Proofs.Ythcikldhlohjbaa.PS
open Go.RowKit Go.Proofs.YthcikldhlohjbaaW.PrintWords Go.Proofs.YthcikldhlohjbaaW.PrintLast Go.Proofs.YthcikldhlohjbaaW.PrintMore
attribute [local go_sem] max2_int min2_int max_two min_two max_three min_three max_four min_four   -- for this text's walks alone
set_option linter.unusedVariables false
set_option linter.unusedSimpArgs false

/-! ### musterkit_CopyJobs: function 16 -/
def musterkit_CopyJobs.l0 : Nat → List (S43) → List (S43) → Int → Option ((List (S43)))
  | 0, _, _, _ => none
  | k + 1, x0, x3, x4 => if x4 < (x0.length : Int) then (if 0 ≤ x4 then ((musterkit_CopyJob.f k ((rd_T43 x0 x4).f0) ((rd_T43 x0 x4).f1) ((rd_T43 x0 x4).f2) ((rd_T43 x0 x4).f3.f0) ((rd_T43 x0 x4).f3.f1) ((rd_T43 x0 x4).f3.f2) ((rd_T43 x0 x4).f3.f3) ((rd_T43 x0 x4).f3.f4) ((rd_T43 x0 x4).f3.f5) ((rd_T43 x0 x4).f3.f6) ((rd_T43 x0 x4).f3.f7) ((rd_T43 x0 x4).f4) ((rd_T43 x0 x4).f5) ((rd_T43 x0 x4).f6) ((rd_T43 x0 x4).f7) ((rd_T43 x0 x4).f8) ((rd_T43 x0 x4).f9)).bind fun bt134 => (if x3.length < 764877654105 then (musterkit_CopyJobs.l0 k x0 (x3 ++ [(⟨bt134.1, bt134.2.1, bt134.2.2.1, (⟨bt134.2.2.2.1, bt134.2.2.2.2.1, bt134.2.2.2.2.2.1, bt134.2.2.2.2.2.2.1, bt134.2.2.2.2.2.2.2.1, bt134.2.2.2.2.2.2.2.2.1, bt134.2.2.2.2.2.2.2.2.2.1, bt134.2.2.2.2.2.2.2.2.2.2.1⟩ : S38), bt134.2.2.2.2.2.2.2.2.2.2.2.1, bt134.2.2.2.2.2.2.2.2.2.2.2.2.1, bt134.2.2.2.2.2.2.2.2.2.2.2.2.2.1, bt134.2.2.2.2.2.2.2.2.2.2.2.2.2.2.1, bt134.2.2.2.2.2.2.2.2.2.2.2.2.2.2.2.1, bt134.2.2.2.2.2.2.2.2.2.2.2.2.2.2.2.2⟩ : S43)]) (wrap64 (x4 + 1))) else (none))) else (none)) else (some x3)
def musterkit_CopyJobs.f (k : Nat) (l0 : List (S43)) : Option ((List (S43))) := musterkit_CopyJobs.l0 k l0 ([] : List (S43)) 0
theorem musterkit_CopyJobs.mono_l : ∀ k, (∀ y0 y1 y2, LeO (musterkit_CopyJobs.l0 k y0 y1 y2) (musterkit_CopyJobs.l0 (k + 1) y0 y1 y2))
  | 0 => fun _ _ _ r h => by simp [musterkit_CopyJobs.l0] at h
  | k + 1 => by
    have ih0 := musterkit_CopyJobs.mono_l k
    · intro y0 y1 y2
      unfold musterkit_CopyJobs.l0
      repeat' first
      | (with_reducible exact ih0 _ _ _)
      | (with_reducible exact musterkit_CopyJob.mono _ _ _ _ _ _ _ _ _ _ _ _ _ _ _ _ _ _)
      | (with_reducible exact LeO.refl _)
      | (with_reducible exact LeO.none _)
      | (with_reducible refine LeO.ite ?_ ?_)
      | (with_reducible refine LeO.bind ?_ (fun _ => ?_))
      | exact ih0 _ _ _
      | exact musterkit_CopyJob.mono _ _ _ _ _ _ _ _ _ _ _ _ _ _ _ _ _ _
      | exact LeO.none _
      | refine LeO.ite ?_ ?_
      | refine LeO.bind ?_ (fun _ => ?_)
theorem musterkit_CopyJobs.mono : ∀ a0 k, LeO (musterkit_CopyJobs.f k a0) (musterkit_CopyJobs.f (k + 1) a0) := by
  intro a0 k
  have ih0 := musterkit_CopyJobs.mono_l k
  unfold musterkit_CopyJobs.f
  repeat' first
      | (with_reducible exact ih0 _ _ _)
      | (with_reducible exact musterkit_CopyJob.mono _ _ _ _ _ _ _ _ _ _ _ _ _ _ _ _ _ _)
      | (with_reducible exact LeO.refl _)
      | (with_reducible exact LeO.none _)
      | (with_reducible refine LeO.ite ?_ ?_)
      | (with_reducible refine LeO.bind ?_ (fun _ => ?_))
      | exact ih0 _ _ _
      | exact musterkit_CopyJob.mono _ _ _ _ _ _ _ _ _ _ _ _ _ _ _ _ _ _
      | exact LeO.none _
      | refine LeO.ite ?_ ?_
      | refine LeO.bind ?_ (fun _ => ?_)
set_option maxHeartbeats 8000000 in
set_option maxRecDepth 100000 in
theorem musterkit_CopyJobs.calls (k : Nat) (A0 : Option Addr) (c0 : Nat) (l0 : List (S43)) (r : List (S43)) (w : World) (hr0 : Kd.C k43 w A0 l0.length l0) (hc0 : l0.length ≤ c0) (h : musterkit_CopyJobs.f k l0 = some r) :
    Calls Try.prog 16 #[.slice A0 l0.length c0] w fun e w' => ∃ v0_ : Value, e = .returned (v0_) ∧ Kd.S k43 43 w' w.heap.size (fun _ => True) v0_ r ∧ Below w.heap.size w w' := by
  have hu43 := Try.underlying43
  have HR0 := Aside0.mk hr0
  have HC0 := Aside0.mk hc0
  clear hr0 hc0
  have HB := Aside0.mk (Below.refl w.heap.size w)
  have H : (musterkit_CopyJobs.l0 k l0 ([] : List (S43)) 0) = some r := h
  clear h
  have H' := Aside0.mk H
  clear H
  go_enter Try.func16, Try.ntmps16
  go_wp2
  go_loopg [3, 4] k (fun kq v3 v4 w' => ∃ (x3_1 : List (S43)) (x4_1 : Int), v4 = .int .i64 x4_1 ∧ Aside0 (musterkit_CopyJobs.l0 kq l0 x3_1 x4_1 = some r) ∧ Aside0 (kq ≤ k) ∧ Aside0 (Kd.S k43 43 w' w.heap.size (fun _ => True) v3 x3_1) ∧ Aside0 (Below w.heap.size w w'))
  case atStart => exact ⟨(([] : List (S43))), (0), (by first | rfl | (simp; done) | (simp [*]; done)), H', ⟨Nat.le_refl _⟩, ⟨by first | exact Kd.S_nil _ _ _ _ _ | exact Kd.N_nil _ _ _ _ _ | exact Kd.V_nil _ _ _ _ _ | exact Kd.Q_nil _ _ _ _ _ | exact Kd.R_nil _ _ _ _ _⟩, ⟨by repeat (first | (with_reducible first | exact HB.out | apply below_alloc | apply pw_below_drewN | apply below_drew1) | exact HB.out)⟩⟩
  case round =>
    clear H'
    try clear c1
    obtain ⟨x3_1, x4_1, rfl, HA, HK1, HO_3, HB⟩ := hrel
    cases gk with
    | zero => exact absurd HA.out (by simp [musterkit_CopyJobs.l0])
    | succ k1 =>
      have H := HA.out
      clear HA
      simp only [musterkit_CopyJobs.l0] at H
      by_cases c2 : x4_1 < (l0.length : Int)
      · rw [if_pos c2] at H
        have c2b0 : decide (x4_1 < (l0.length : Int)) = true := decide_eq_true c2
        clear c2
        by_cases c3 : 0 ≤ x4_1
        · rw [if_pos c3] at H
          have c3b0 : decide (0 ≤ x4_1) = true := decide_eq_true c3
          clear c3
          replace H := Option.bind_eq_some_iff.mp H
          obtain ⟨⟨t134, t135, t136, t137, t138, t139, t140, t141, t142, t143, t144, t147, t148, t149, t150, t151, t152⟩, A40, H⟩ := H
          replace H : (if x3_1.length < 764877654105 then (musterkit_CopyJobs.l0 k1 l0 (x3_1 ++ [(⟨t134, t135, t136, (⟨t137, t138, t139, t140, t141, t142, t143, t144⟩ : S38), t147, t148, t149, t150, t151, t152⟩ : S43)]) (wrap64 (x4_1 + 1))) else (none)) = some r := H
          have A4 := Aside0.mk A40
          clear A40
          by_cases c5 : x3_1.length < 764877654105
          · rw [if_pos c5] at H
            have LMc5 := Aside0.mk c5
            clear c5
            obtain ⟨y153, hy153⟩ : ∃ y_ : List (S43), y_ = (x3_1 ++ [(⟨t134, t135, t136, (⟨t137, t138, t139, t140, t141, t142, t143, t144⟩ : S38), t147, t148, t149, t150, t151, t152⟩ : S43)]) := ⟨_, rfl⟩
            replace H : (musterkit_CopyJobs.l0 k1 l0 y153 (wrap64 (x4_1 + 1))) = some r := by first | (rw [hy153]; with_reducible exact H) | (have H2_ := (Option.bind_some _ _).symm.trans H; rw [hy153]; with_reducible exact H2_) | (have H2_ := (Option.bind_some _ _).symm.trans H; with_reducible exact H2_) | with_reducible exact H | (rw [hy153]; exact H) | exact H
            have Ny153 := Aside0.mk hy153
            clear hy153
            have H' := Aside0.mk H
            clear H
            have p133 : 0 ≤ (x4_1 : Int) := of_decide_eq_true (by first | (with_reducible assumption) | assumption)
            have q133 : x4_1 < (l0.length : Int) := of_decide_eq_true (by first | (with_reducible assumption) | assumption)
            obtain ⟨ad133, A133_10, c133_10, e133, hx133_0, hx133_1, hx133_2, hx133_3, hx133_4, hx133_5, hx133_6, hx133_7, hx133_8, hx133_9, hx133_10, hx133_11, hx133_12, hx133_13, hx133_14, hx133_15, hx133_16, hl133_10, hi133_10⟩ := at_T43 HR0.out x4_1 p133 q133
            cases e133
            replace hx133_0 := (HB.out.cell (World.block_lt_of_cell? w _ hx133_0)).trans hx133_0
            replace hx133_1 := (HB.out.cell (World.block_lt_of_cell? w _ hx133_1)).trans hx133_1
            replace hx133_2 := (HB.out.cell (World.block_lt_of_cell? w _ hx133_2)).trans hx133_2
            replace hx133_3 := (HB.out.cell (World.block_lt_of_cell? w _ hx133_3)).trans hx133_3
            replace hx133_4 := (HB.out.cell (World.block_lt_of_cell? w _ hx133_4)).trans hx133_4
            replace hx133_5 := (HB.out.cell (World.block_lt_of_cell? w _ hx133_5)).trans hx133_5
            replace hx133_6 := (HB.out.cell (World.block_lt_of_cell? w _ hx133_6)).trans hx133_6
            replace hx133_7 := (HB.out.cell (World.block_lt_of_cell? w _ hx133_7)).trans hx133_7
            replace hx133_8 := (HB.out.cell (World.block_lt_of_cell? w _ hx133_8)).trans hx133_8
            replace hx133_9 := (HB.out.cell (World.block_lt_of_cell? w _ hx133_9)).trans hx133_9
            replace hx133_10 := (HB.out.cell (World.block_lt_of_cell? w _ hx133_10)).trans hx133_10
            replace hx133_11 := (HB.out.cell (World.block_lt_of_cell? w _ hx133_11)).trans hx133_11
            replace hx133_12 := (HB.out.cell (World.block_lt_of_cell? w _ hx133_12)).trans hx133_12
            replace hx133_13 := (HB.out.cell (World.block_lt_of_cell? w _ hx133_13)).trans hx133_13
            replace hx133_14 := (HB.out.cell (World.block_lt_of_cell? w _ hx133_14)).trans hx133_14
            replace hx133_15 := (HB.out.cell (World.block_lt_of_cell? w _ hx133_15)).trans hx133_15
            replace hx133_16 := (HB.out.cell (World.block_lt_of_cell? w _ hx133_16)).trans hx133_16
            have HR133_10 := Aside0.mk hi133_10
            have HC133_10 := Aside0.mk hl133_10
            clear hi133_10 hl133_10
            replace p133 := eq_true p133
            replace q133 := eq_true q133
            go_wp2_with (first | ((with_reducible refine gate_callee (f := 72) rfl ?_); refine goesL_ (some 16) rfl rfl Try.func72 (by kernel_rfl) rfl #[.agg #[.int .i64 ((rd_T43 l0 x4_1).f0), .int .i64 ((rd_T43 l0 x4_1).f1), .int .i64 ((rd_T43 l0 x4_1).f2), .string ((rd_T43 l0 x4_1).f3.f0), .string ((rd_T43 l0 x4_1).f3.f1), .string ((rd_T43 l0 x4_1).f3.f2), .string ((rd_T43 l0 x4_1).f3.f3), .int .i64 ((rd_T43 l0 x4_1).f3.f4), .int .i64 ((rd_T43 l0 x4_1).f3.f5), .int .i64 ((rd_T43 l0 x4_1).f3.f6), .slice A133_10 ((rd_T43 l0 x4_1).f3.f7).length c133_10, .int .u8 ((rd_T43 l0 x4_1).f4), .int .i64 ((rd_T43 l0 x4_1).f5), .int .i64 ((rd_T43 l0 x4_1).f6), .int .i64 ((rd_T43 l0 x4_1).f7), .int .u32 ((rd_T43 l0 x4_1).f8), .int .i64 ((rd_T43 l0 x4_1).f9)]] rfl (by (try simp only [List.map_toArray, List.map_cons, List.map_nil]); first | done | rfl | (simp only [List.length_drop, List.length_take]; rfl)) ?_; (with_reducible refine (musterkit_CopyJob.calls k1 ((rd_T43 l0 x4_1).f0) ((rd_T43 l0 x4_1).f1) ((rd_T43 l0 x4_1).f2) ((rd_T43 l0 x4_1).f3.f0) ((rd_T43 l0 x4_1).f3.f1) ((rd_T43 l0 x4_1).f3.f2) ((rd_T43 l0 x4_1).f3.f3) ((rd_T43 l0 x4_1).f3.f4) ((rd_T43 l0 x4_1).f3.f5) ((rd_T43 l0 x4_1).f3.f6) _ _ ((rd_T43 l0 x4_1).f3.f7) ((rd_T43 l0 x4_1).f4) ((rd_T43 l0 x4_1).f5) ((rd_T43 l0 x4_1).f6) ((rd_T43 l0 x4_1).f7) ((rd_T43 l0 x4_1).f8) ((rd_T43 l0 x4_1).f9) t134 t135 t136 t137 t138 t139 t140 t141 t142 t143 t144 t147 t148 t149 t150 t151 t152 _ ?side1 ?side2 A4.out).mono ?_); (case side1 => repeat (first | exact (Kd.C_below HR133_10.out HB.out) | (with_reducible refine Kd.C_alloc ?_ _) | (with_reducible refine Kd.C_drewN ?_ _) | (with_reducible refine Kd.C_drew ?_))); (case side2 => exact HC133_10.out); rintro e w6 ⟨v145, rfl, ho0, hb⟩; refine ⟨_, rfl, ?_⟩; have n0_ := Aside0.mk (Kd.S_elder' (by (with_reducible repeat (first | apply Kd.S_alloc | apply Kd.S_drewN | apply Kd.S_drew)); exact HO_3.out) (Kd.R_base ho0) hb); have n1_ := Aside0.mk (Kd.R_lower ho0 (below_size (by repeat (first | (with_reducible first | exact HB.out | apply below_alloc | apply pw_below_drewN | apply below_drew1) | exact HB.out)))); have n2_ := Aside0.mk (below_step (by repeat (first | (with_reducible first | exact HB.out | apply below_alloc | apply pw_below_drewN | apply below_drew1) | exact HB.out)) hb); clear HO_3; clear HB; have HO_3 := n0_; have HO146 := n1_; have HB := n2_; clear n0_ n1_ n2_; (try clear hb); (try clear hb2); (try clear hk); (try clear hi); (try clear ho0); obtain ⟨Ao8, co8, eo8⟩ := Kd.R_slice HO146.out; subst eo8) | ((with_reducible refine gate_builtin (b := .append) (xs := #[.tmp 11, .tmp 17]) rfl ?_); at_builtin; refine Kd.S_append k43 (w0 := w) w.heap.size rfl (.tmp 11) (.tmp 17) 23 43 (.agg #[(.int .i64 0), (.int .i64 0), (.int .i64 0), (.string ⟨#[]⟩), (.string ⟨#[]⟩), (.string ⟨#[]⟩), (.string ⟨#[]⟩), (.int .i64 0), (.int .i64 0), (.int .i64 0), (.slice none 0 0), (.int .u8 0), (.int .i64 0), (.int .i64 0), (.int .i64 0), (.int .u32 0), (.int .i64 0)]) 184 rfl Try.underlying23 info43 rfl (by decide) (by omega) u3 x3_1 (⟨t134, t135, t136, (⟨t137, t138, t139, t140, t141, t142, t143, t144⟩ : S38), t147, t148, t149, t150, t151, t152⟩ : S43) [.int .i64 t134, .int .i64 t135, .int .i64 t136, .string t137, .string t138, .string t139, .string t140, .int .i64 t141, .int .i64 t142, .int .i64 t143, .slice Ao8 t144.length co8, .int .u8 t147, .int .i64 t148, .int .i64 t149, .int .i64 t150, .int .u32 t151, .int .i64 t152] (fun _ => True) (fun k_ => some k_ = (.slice Ao8 t144.length co8 : Value).ownBlock) rfl rfl ?aP (fun k_ hk_ => ((Kd.R_mono (ok' := fun k_ => ((fun _ => True)) k_ ∧ some k_ ≠ (u3 : Value).ownBlock) (Kd.R_apart' (HO146.out) (Kd.S_typed HO_3.out) (by decide)) (fun k_ hk => ⟨trivial, hk.2⟩))).1 k_ hk_.symm) ?aF ?aO ?aB ?aS ?aL ?_; (case aP => exact k43_mkM _ _ _ (⟨t134, t135, t136, (⟨t137, t138, t139, t140, t141, t142, t143, t144⟩ : S38), t147, t148, t149, t150, t151, t152⟩ : S43) (Kd.R_mono (Kd.R_tight rfl (Kd.R_mono (ok' := fun k_ => ((fun _ => True)) k_ ∧ some k_ ≠ (u3 : Value).ownBlock) (Kd.R_apart' (HO146.out) (Kd.S_typed HO_3.out) (by decide)) (fun k_ hk => ⟨trivial, hk.2⟩))) (fun _ h_ => h_))); (case aB => exact (by repeat (first | (with_reducible first | exact HB.out | apply below_alloc | apply pw_below_drewN | apply below_drew1) | exact HB.out))); (case aF => exact (fun _ _ => trivial)); (case aO => exact (by (with_reducible repeat (first | apply Kd.S_alloc | apply Kd.S_drewN | apply Kd.S_drew)); exact Kd.S_mono HO_3.out (fun k_ hk => ⟨trivial, fun e_ => hk.2 e_⟩))); (case aS => exact (below_size (by repeat (first | (with_reducible first | exact HB.out | apply below_alloc | apply pw_below_drewN | apply below_drew1) | exact HB.out)))); (case aL => have := LMc5.out; omega); intro v154 w7 ho hb hg hat; rw [← Ny153.out] at ho; have n0_ := Aside0.mk (hb); have n1_ := Aside0.mk (ho); clear HB; clear HO_3; clear HO146; have HB := n0_; have HO155 := n1_; clear n0_ n1_; clear ho hb hg hat))
            go_roundg k1
            case measure => have := HK1.out; omega
            case rel => exact ⟨(y153), (wrap64 (x4_1 + 1)), (by first | rfl | (simp; done) | (simp [*]; done)), H', ⟨by have := HK1.out; omega⟩, ⟨by (with_reducible repeat (first | apply Kd.S_alloc | apply Kd.S_drewN | apply Kd.S_drew)); exact HO155.out⟩, ⟨by repeat (first | (with_reducible first | exact HB.out | apply below_alloc | apply pw_below_drewN | apply below_drew1) | exact HB.out)⟩⟩
          · rw [if_neg c5] at H
            exact absurd H (by simp)
        · rw [if_neg c3] at H
          exact absurd H (by simp)
      · rw [if_neg c2] at H
        have c2b0 : decide (x4_1 < (l0.length : Int)) = false := decide_eq_false c2
        clear c2
        obtain rfl := Option.some.inj H
        go_wp2
        go_ret
        exact ⟨_, by first | rfl | (simp [errW_none, errW_some] <;> rfl) | (simp [*, errW_none, errW_some] <;> rfl), by (with_reducible repeat (first | apply Kd.S_alloc | apply Kd.S_drewN | apply Kd.S_drew)); exact HO_3.out, by repeat (first | (with_reducible first | exact HB.out | apply below_alloc | apply pw_below_drewN | apply below_drew1) | exact HB.out)⟩

end Go.Proofs.Ythcikldhlohjbaa.PS
