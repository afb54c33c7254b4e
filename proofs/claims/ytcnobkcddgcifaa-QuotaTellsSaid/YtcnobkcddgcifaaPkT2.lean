/- Texts of this claim, laid together: PTx14, PTx13, PlainTreeQ, QuotaB, PTx9, PTx31, PTx33. -/
import Derived.Deep.MidRow
import Derived.Test.YtcnobkcddgcifaaPkT0
import Derived.Test.YtcnobkcddgcifaaPkT1
-- printed by wprint.py (this session's program over the kit's print.py)
namespace Go.Proofs.Ytcnobkcddgcifaa.PT
open Go.RowKit Go.Proofs.YtcnobkcddgcifaaW.PrintWords Go.Proofs.YtcnobkcddgcifaaW.PrintLast Go.Proofs.YtcnobkcddgcifaaW.PrintMore
attribute [local go_sem] max2_int min2_int max_two min_two max_three min_three max_four min_four   -- for this text's walks alone
set_option linter.unusedVariables false
set_option linter.unusedSimpArgs false

/-! ### tree_Path: function 42 -/
def tree_Path.f (k : Nat) (l0 : List (S57)) (a1 : ByteArray) : Option (List ByteArray × Int) := (tree_place.f l0 a1).bind fun bt176 => (if bt176.2 = 0 then ((tree_up.f k l0 bt176.1).bind fun t178 => (some (t178, 0))) else (some (([] : List ByteArray), bt176.2)))
theorem tree_Path.mono : ∀ a0 a1 k, LeO (tree_Path.f k a0 a1) (tree_Path.f (k + 1) a0 a1) := by
  intro a0 a1 k
  unfold tree_Path.f
  repeat' first
      | (with_reducible exact tree_up.mono _ _ _)
      | (with_reducible exact LeO.refl _)
      | (with_reducible exact LeO.none _)
      | (with_reducible refine LeO.ite ?_ ?_)
      | (with_reducible refine LeO.bind ?_ (fun _ => ?_))
      | exact tree_up.mono _ _ _
      | exact LeO.none _
      | refine LeO.ite ?_ ?_
      | refine LeO.bind ?_ (fun _ => ?_)
set_option maxHeartbeats 8000000 in
set_option maxRecDepth 100000 in
theorem tree_Path.calls (k : Nat) (A0 : Option Addr) (c0 : Nat) (l0 : List (S57)) (a1 : ByteArray) (r1 : List ByteArray) (r2 : Int) (w : World) (hr0 : Kd.C k57 w A0 l0.length l0) (hc0 : l0.length ≤ c0) (h : tree_Path.f k l0 a1 = some (r1, r2)) :
    Calls Try.prog 42 #[.slice A0 l0.length c0, .string a1] w fun e w' => ∃ v0_ : Value, e = .returned (.tuple #[v0_, .int .i64 r2]) ∧ Kd.R Kd.string 9 w' w.heap.size (fun _ => True) v0_ r1 ∧ Below w.heap.size w w' := by
  have HR0 := Aside0.mk hr0
  have HC0 := Aside0.mk hc0
  clear hr0 hc0
  have HB := Aside0.mk (Below.refl w.heap.size w)
  have H : ((tree_place.f l0 a1).bind fun bt176 => (if bt176.2 = 0 then ((tree_up.f k l0 bt176.1).bind fun t178 => (some (t178, 0))) else (some (([] : List ByteArray), bt176.2)))) = some (r1, r2) := h
  clear h
  replace H := Option.bind_eq_some_iff.mp H
  obtain ⟨⟨t176, t177⟩, A30, H⟩ := H
  replace H : (if t177 = 0 then ((tree_up.f k l0 t176).bind fun t178 => (some (t178, 0))) else (some (([] : List ByteArray), t177))) = some (r1, r2) := H
  have A3 := Aside0.mk A30
  clear A30
  by_cases c4 : t177 = 0
  · rw [if_pos c4] at H
    have c4b0 : (t177 == 0) = true := beq_iff_eq.mpr c4
    have c4b1 : (t177 != 0) = false := bne_eq_false_iff_eq.mpr c4
    clear c4
    replace H := Option.bind_eq_some_iff.mp H
    obtain ⟨t178, A50, H⟩ := H
    replace H : (some (t178, 0)) = some (r1, r2) := H
    have A5 := Aside0.mk A50
    clear A50
    simp only [Option.some.injEq, Prod.mk.injEq] at H
    obtain ⟨rfl, rfl⟩ := H
    go_enter Try.func42, Try.ntmps42
    go_wp2_with (first | ((with_reducible refine gate_callee (f := 62) rfl ?_); refine goesL_ (some 11) rfl rfl Try.func62 (by kernel_rfl) rfl #[.slice A0 l0.length c0, .string a1] rfl (by (try simp only [List.map_toArray, List.map_cons, List.map_nil]); first | done | rfl | (simp only [List.length_drop, List.length_take]; rfl)) ?_; (with_reducible refine (tree_place.calls _ _ l0 a1 t176 t177 _ ?side1 ?side2 A3.out).mono ?_); (case side1 => repeat (first | exact HR0.out | (with_reducible refine Kd.C_alloc ?_ _) | (with_reducible refine Kd.C_drewN ?_ _) | (with_reducible refine Kd.C_drew ?_))); (case side2 => exact HC0.out); rintro e w6 ⟨rfl, hb⟩; refine ⟨_, rfl, ?_⟩; have n0_ := Aside0.mk (below_step (by repeat (first | (with_reducible first | exact HB.out | apply below_alloc | apply pw_below_drewN | apply below_drew1) | exact HB.out)) hb); clear HB; have HB := n0_; clear n0_; (try clear hb); (try clear hb2); (try clear hk); (try clear hi)) | ((with_reducible refine gate_callee (f := 63) rfl ?_); refine goesL_ (some 19) rfl rfl Try.func63 (by kernel_rfl) rfl #[.slice A0 l0.length c0, .int .i64 t176] rfl (by (try simp only [List.map_toArray, List.map_cons, List.map_nil]); first | done | rfl | (simp only [List.length_drop, List.length_take]; rfl)) ?_; (with_reducible refine (tree_up.calls k _ _ l0 t176 t178 _ ?side1 ?side2 A5.out).mono ?_); (case side1 => repeat (first | exact (Kd.C_below HR0.out HB.out) | (with_reducible refine Kd.C_alloc ?_ _) | (with_reducible refine Kd.C_drewN ?_ _) | (with_reducible refine Kd.C_drew ?_))); (case side2 => exact HC0.out); rintro e w7 ⟨v179, rfl, ho0, hb⟩; refine ⟨_, rfl, ?_⟩; have n0_ := Aside0.mk (Kd.R_lower ho0 (below_size (by repeat (first | (with_reducible first | exact HB.out | apply below_alloc | apply pw_below_drewN | apply below_drew1) | exact HB.out)))); have n1_ := Aside0.mk (below_step (by repeat (first | (with_reducible first | exact HB.out | apply below_alloc | apply pw_below_drewN | apply below_drew1) | exact HB.out)) hb); clear HB; have HO180 := n0_; have HB := n1_; clear n0_ n1_; (try clear hb); (try clear hb2); (try clear hk); (try clear hi); (try clear ho0)))
    go_ret2
    exact ⟨_, by first | rfl | (simp [errW_none, errW_some] <;> rfl) | (simp [*, errW_none, errW_some] <;> rfl), by (with_reducible repeat (first | apply Kd.R_alloc | apply Kd.R_drewN | apply Kd.R_drew)); exact HO180.out, by repeat (first | (with_reducible first | exact HB.out | apply below_alloc | apply pw_below_drewN | apply below_drew1) | exact HB.out)⟩
  · rw [if_neg c4] at H
    have c4b0 : (t177 == 0) = false := beq_eq_false_iff_ne.mpr c4
    have c4b1 : (t177 != 0) = true := bne_iff_ne.mpr c4
    simp only [Option.some.injEq, Prod.mk.injEq] at H
    obtain ⟨rfl, rfl⟩ := H
    go_enter Try.func42, Try.ntmps42
    go_wp2_with (first | ((with_reducible refine gate_callee (f := 62) rfl ?_); refine goesL_ (some 11) rfl rfl Try.func62 (by kernel_rfl) rfl #[.slice A0 l0.length c0, .string a1] rfl (by (try simp only [List.map_toArray, List.map_cons, List.map_nil]); first | done | rfl | (simp only [List.length_drop, List.length_take]; rfl)) ?_; (with_reducible refine (tree_place.calls _ _ l0 a1 t176 t177 _ ?side1 ?side2 A3.out).mono ?_); (case side1 => repeat (first | exact HR0.out | (with_reducible refine Kd.C_alloc ?_ _) | (with_reducible refine Kd.C_drewN ?_ _) | (with_reducible refine Kd.C_drew ?_))); (case side2 => exact HC0.out); rintro e w8 ⟨rfl, hb⟩; refine ⟨_, rfl, ?_⟩; have n0_ := Aside0.mk (below_step (by repeat (first | (with_reducible first | exact HB.out | apply below_alloc | apply pw_below_drewN | apply below_drew1) | exact HB.out)) hb); clear HB; have HB := n0_; clear n0_; (try clear hb); (try clear hb2); (try clear hk); (try clear hi)))
    go_ret2
    exact ⟨_, by first | rfl | (simp [errW_none, errW_some] <;> rfl) | (simp [*, errW_none, errW_some] <;> rfl), by first | exact Kd.R_nil _ _ _ _ _ | exact Kd.N_nil _ _ _ _ _ | exact Kd.V_nil _ _ _ _ _ | exact Kd.Q_nil _ _ _ _ _ | exact Kd.S_nil _ _ _ _ _, by repeat (first | (with_reducible first | exact HB.out | apply below_alloc | apply pw_below_drewN | apply below_drew1) | exact HB.out)⟩

end Go.Proofs.Ytcnobkcddgcifaa.PT
-- printed by wprint.py (this session's program over the kit's print.py)
namespace Go.Proofs.Ytcnobkcddgcifaa.PT
open Go.RowKit Go.Proofs.YtcnobkcddgcifaaW.PrintWords Go.Proofs.YtcnobkcddgcifaaW.PrintLast Go.Proofs.YtcnobkcddgcifaaW.PrintMore
attribute [local go_sem] max2_int min2_int max_two min_two max_three min_three max_four min_four   -- for this text's walks alone
set_option linter.unusedVariables false
set_option linter.unusedSimpArgs false

/-! ### tree_Below: function 49 -/
def tree_Below.l0 : Nat → List (S57) → ByteArray → List ByteArray → List (S57) → Int → Int → Option (List ByteArray × Int)
  | 0, _, _, _, _, _, _ => none
  | k + 1, x0, x1, x8, x20, x21, x22 => if x22 < x21 then (if 0 ≤ x22 then (if x22 < (x20.length : Int) then ((tree_up.f k x0 x22).bind fun t169 => ((slices_Contains_string_string.f k t169 x1).bind fun t172 => (if t172 = true then (if x8.length < 8796093022208 then (tree_Below.l0 k x0 x1 (x8 ++ [(rd_T57 x20 x22).f0]) x20 x21 (wrap64 (x22 + 1))) else (none)) else (tree_Below.l0 k x0 x1 x8 x20 x21 (wrap64 (x22 + 1)))))) else (none)) else (none)) else (some (x8, 0))
def tree_Below.f (k : Nat) (l0 : List (S57)) (a1 : ByteArray) : Option (List ByteArray × Int) := (tree_place.f l0 a1).bind fun bt165 => (if bt165.2 = 0 then (tree_Below.l0 k l0 a1 ([] : List ByteArray) l0 (l0.length : Int) 0) else (some (([] : List ByteArray), bt165.2)))
theorem tree_Below.mono_l : ∀ k, (∀ y0 y1 y2 y3 y4 y5, LeO (tree_Below.l0 k y0 y1 y2 y3 y4 y5) (tree_Below.l0 (k + 1) y0 y1 y2 y3 y4 y5))
  | 0 => fun _ _ _ _ _ _ r h => by simp [tree_Below.l0] at h
  | k + 1 => by
    have ih0 := tree_Below.mono_l k
    · intro y0 y1 y2 y3 y4 y5
      unfold tree_Below.l0
      repeat' first
      | (with_reducible exact ih0 _ _ _ _ _ _)
      | (with_reducible exact slices_Contains_string_string.mono _ _ _)
      | (with_reducible exact tree_up.mono _ _ _)
      | (with_reducible exact LeO.refl _)
      | (with_reducible exact LeO.none _)
      | (with_reducible refine LeO.ite ?_ ?_)
      | (with_reducible refine LeO.bind ?_ (fun _ => ?_))
      | exact ih0 _ _ _ _ _ _
      | exact slices_Contains_string_string.mono _ _ _
      | exact tree_up.mono _ _ _
      | exact LeO.none _
      | refine LeO.ite ?_ ?_
      | refine LeO.bind ?_ (fun _ => ?_)
theorem tree_Below.mono : ∀ a0 a1 k, LeO (tree_Below.f k a0 a1) (tree_Below.f (k + 1) a0 a1) := by
  intro a0 a1 k
  have ih0 := tree_Below.mono_l k
  unfold tree_Below.f
  repeat' first
      | (with_reducible exact ih0 _ _ _ _ _ _)
      | (with_reducible exact slices_Contains_string_string.mono _ _ _)
      | (with_reducible exact tree_up.mono _ _ _)
      | (with_reducible exact LeO.refl _)
      | (with_reducible exact LeO.none _)
      | (with_reducible refine LeO.ite ?_ ?_)
      | (with_reducible refine LeO.bind ?_ (fun _ => ?_))
      | exact ih0 _ _ _ _ _ _
      | exact slices_Contains_string_string.mono _ _ _
      | exact tree_up.mono _ _ _
      | exact LeO.none _
      | refine LeO.ite ?_ ?_
      | refine LeO.bind ?_ (fun _ => ?_)
set_option maxHeartbeats 8000000 in
set_option maxRecDepth 100000 in
theorem tree_Below.calls (k : Nat) (A0 : Option Addr) (c0 : Nat) (l0 : List (S57)) (a1 : ByteArray) (r1 : List ByteArray) (r2 : Int) (w : World) (hr0 : Kd.C k57 w A0 l0.length l0) (hc0 : l0.length ≤ c0) (h : tree_Below.f k l0 a1 = some (r1, r2)) :
    Calls Try.prog 49 #[.slice A0 l0.length c0, .string a1] w fun e w' => ∃ v0_ : Value, e = .returned (.tuple #[v0_, .int .i64 r2]) ∧ Kd.R Kd.string 9 w' w.heap.size (fun _ => True) v0_ r1 ∧ Below w.heap.size w w' := by
  have hu57 := Try.underlying57
  have HR0 := Aside0.mk hr0
  have HC0 := Aside0.mk hc0
  clear hr0 hc0
  have HB := Aside0.mk (Below.refl w.heap.size w)
  have H : ((tree_place.f l0 a1).bind fun bt165 => (if bt165.2 = 0 then (tree_Below.l0 k l0 a1 ([] : List ByteArray) l0 (l0.length : Int) 0) else (some (([] : List ByteArray), bt165.2)))) = some (r1, r2) := h
  clear h
  replace H := Option.bind_eq_some_iff.mp H
  obtain ⟨⟨t165, t166⟩, A30, H⟩ := H
  replace H : (if t166 = 0 then (tree_Below.l0 k l0 a1 ([] : List ByteArray) l0 (l0.length : Int) 0) else (some (([] : List ByteArray), t166))) = some (r1, r2) := H
  have A3 := Aside0.mk A30
  clear A30
  by_cases c4 : t166 = 0
  · rw [if_pos c4] at H
    have c4b0 : (t166 == 0) = true := beq_iff_eq.mpr c4
    have c4b1 : (t166 != 0) = false := bne_eq_false_iff_eq.mpr c4
    clear c4
    have H' := Aside0.mk H
    clear H
    go_enter Try.func49, Try.ntmps49
    go_wp2_with (first | ((with_reducible refine gate_callee (f := 62) rfl ?_); refine goesL_ (some 14) rfl rfl Try.func62 (by kernel_rfl) rfl #[.slice A0 l0.length c0, .string a1] rfl (by (try simp only [List.map_toArray, List.map_cons, List.map_nil]); first | done | rfl | (simp only [List.length_drop, List.length_take]; rfl)) ?_; (with_reducible refine (tree_place.calls _ _ l0 a1 t165 t166 _ ?side1 ?side2 A3.out).mono ?_); (case side1 => repeat (first | exact HR0.out | (with_reducible refine Kd.C_alloc ?_ _) | (with_reducible refine Kd.C_drewN ?_ _) | (with_reducible refine Kd.C_drew ?_))); (case side2 => exact HC0.out); rintro e w5 ⟨rfl, hb⟩; refine ⟨_, rfl, ?_⟩; have n0_ := Aside0.mk (below_step (by repeat (first | (with_reducible first | exact HB.out | apply below_alloc | apply pw_below_drewN | apply below_drew1) | exact HB.out)) hb); clear HB; have HB := n0_; clear n0_; (try clear hb); (try clear hb2); (try clear hk); (try clear hi)))
    go_loopg [8, 22] k (fun kq v8 v22 w' => ∃ (x8_1 : List ByteArray) (x22_1 : Int), v22 = .int .i64 x22_1 ∧ Aside0 (tree_Below.l0 kq l0 a1 x8_1 l0 (l0.length : Int) x22_1 = some (r1, r2)) ∧ Aside0 (kq ≤ k) ∧ Aside0 (Kd.R Kd.string 9 w' w.heap.size (fun _ => True) v8 x8_1) ∧ Aside0 (Below w.heap.size w w'))
    case atStart => exact ⟨(([] : List ByteArray)), (0), (by first | rfl | (simp; done) | (simp [*]; done)), H', ⟨Nat.le_refl _⟩, ⟨by first | exact Kd.R_nil _ _ _ _ _ | exact Kd.N_nil _ _ _ _ _ | exact Kd.V_nil _ _ _ _ _ | exact Kd.Q_nil _ _ _ _ _ | exact Kd.S_nil _ _ _ _ _⟩, ⟨by repeat (first | (with_reducible first | exact HB.out | apply below_alloc | apply pw_below_drewN | apply below_drew1) | exact HB.out)⟩⟩
    case round =>
      clear H'
      try clear p2
      try clear c4
      try clear c4b0
      try clear c4b1
      obtain ⟨x8_1, x22_1, rfl, HA, HK1, HO_8, HB⟩ := hrel
      cases gk with
      | zero => exact absurd HA.out (by simp [tree_Below.l0])
      | succ k1 =>
        have H := HA.out
        clear HA
        simp only [tree_Below.l0] at H
        by_cases c6 : x22_1 < (l0.length : Int)
        · rw [if_pos c6] at H
          have c6b0 : decide (x22_1 < (l0.length : Int)) = true := decide_eq_true c6
          clear c6
          by_cases c7 : 0 ≤ x22_1
          · rw [if_pos c7] at H
            have c7b0 : decide (0 ≤ x22_1) = true := decide_eq_true c7
            clear c7
            by_cases c8 : x22_1 < (l0.length : Int)
            · rw [if_pos c8] at H
              have c8b0 : decide (x22_1 < (l0.length : Int)) = true := decide_eq_true c8
              clear c8
              replace H := Option.bind_eq_some_iff.mp H
              obtain ⟨t169, A90, H⟩ := H
              replace H : ((slices_Contains_string_string.f k1 t169 a1).bind fun t172 => (if t172 = true then (if x8_1.length < 8796093022208 then (tree_Below.l0 k1 l0 a1 (x8_1 ++ [(rd_T57 l0 x22_1).f0]) l0 (l0.length : Int) (wrap64 (x22_1 + 1))) else (none)) else (tree_Below.l0 k1 l0 a1 x8_1 l0 (l0.length : Int) (wrap64 (x22_1 + 1))))) = some (r1, r2) := H
              have A9 := Aside0.mk A90
              clear A90
              replace H := Option.bind_eq_some_iff.mp H
              obtain ⟨t172, A100, H⟩ := H
              replace H : (if t172 = true then (if x8_1.length < 8796093022208 then (tree_Below.l0 k1 l0 a1 (x8_1 ++ [(rd_T57 l0 x22_1).f0]) l0 (l0.length : Int) (wrap64 (x22_1 + 1))) else (none)) else (tree_Below.l0 k1 l0 a1 x8_1 l0 (l0.length : Int) (wrap64 (x22_1 + 1)))) = some (r1, r2) := H
              have A10 := Aside0.mk A100
              clear A100
              by_cases c11 : t172 = true
              · subst c11
                have H1 : (if x8_1.length < 8796093022208 then (tree_Below.l0 k1 l0 a1 (x8_1 ++ [(rd_T57 l0 x22_1).f0]) l0 (l0.length : Int) (wrap64 (x22_1 + 1))) else (none)) = some (r1, r2) := by rw [if_pos rfl] at H; exact H
                clear H
                have H := H1
                clear H1
                by_cases c12 : x8_1.length < 8796093022208
                · rw [if_pos c12] at H
                  have LMc12 := Aside0.mk c12
                  clear c12
                  obtain ⟨y173, hy173⟩ : ∃ y_ : List ByteArray, y_ = (x8_1 ++ [(rd_T57 l0 x22_1).f0]) := ⟨_, rfl⟩
                  replace H : (tree_Below.l0 k1 l0 a1 y173 l0 (l0.length : Int) (wrap64 (x22_1 + 1))) = some (r1, r2) := by first | (rw [hy173]; with_reducible exact H) | (have H2_ := (Option.bind_some _ _).symm.trans H; rw [hy173]; with_reducible exact H2_) | (have H2_ := (Option.bind_some _ _).symm.trans H; with_reducible exact H2_) | with_reducible exact H | (rw [hy173]; exact H) | exact H
                  have Ny173 := Aside0.mk hy173
                  clear hy173
                  have H' := Aside0.mk H
                  clear H
                  have p167 : 0 ≤ (x22_1 : Int) := of_decide_eq_true (by first | (with_reducible assumption) | assumption)
                  have q167 : x22_1 < (l0.length : Int) := of_decide_eq_true (by first | (with_reducible assumption) | assumption)
                  obtain ⟨ad167, e167, hx167_0, hx167_1, hx167_2⟩ := at_T57 HR0.out x22_1 p167 q167
                  cases e167
                  replace hx167_0 := (HB.out.cell (World.block_lt_of_cell? w _ hx167_0)).trans hx167_0
                  replace hx167_1 := (HB.out.cell (World.block_lt_of_cell? w _ hx167_1)).trans hx167_1
                  replace hx167_2 := (HB.out.cell (World.block_lt_of_cell? w _ hx167_2)).trans hx167_2
                  replace p167 := eq_true p167
                  replace q167 := eq_true q167
                  go_wp2_with (first | ((with_reducible refine gate_dst (N := 10) rfl ?_); refine box_event ?hg (N := 10) ?hd (cs := #[.string (⟨#[]⟩ : ByteArray), .string (⟨#[]⟩ : ByteArray), .int .i64 0]) (t := 57) ?hr ?_; (case hd => rfl); (case hg => rfl); (case hr => first | (go_simp; done) | (go_simp; rfl)); intro gb168 hg w13 hbox hb; have n0_ := Aside0.mk (Kd.R_below (by (with_reducible repeat (first | apply Kd.R_alloc | apply Kd.R_drewN | apply Kd.R_drew)); exact HO_8.out) hb); have n1_ := Aside0.mk (below_step (by repeat (first | (with_reducible first | exact HB.out | apply below_alloc | apply pw_below_drewN | apply below_drew1) | exact HB.out)) hb); have n2_ := Aside0.mk (hbox); have n3_ := Aside0.mk ((by rw [hg]; exact (below_size (by repeat (first | (with_reducible first | exact HB.out | apply below_alloc | apply pw_below_drewN | apply below_drew1) | exact HB.out))) : w.heap.size ≤ gb168)); have n4_ := Aside0.mk ((by rw [hg]; exact (below_size (by repeat (first | (with_reducible first | exact HB.out | apply below_alloc | apply pw_below_drewN | apply below_drew1) | exact HB.out))) : w.heap.size ≤ gb168)); clear HO_8; clear HB; have HO_8 := n0_; have HB := n1_; have BK168 := n2_; have GW168 := n3_; have GE168 := n4_; clear n0_ n1_ n2_ n3_ n4_; clear hb hbox hg; have hcz14_0 : w13.cell? ⟨gb168, 0, none⟩ = some (.string (⟨#[]⟩ : ByteArray)) := (blk_cell BK168.out 0).trans rfl; have hcz14_1 : w13.cell? ⟨gb168, 1, none⟩ = some (.string (⟨#[]⟩ : ByteArray)) := (blk_cell BK168.out 1).trans rfl; have hcz14_2 : w13.cell? ⟨gb168, 2, none⟩ = some (.int .i64 0) := (blk_cell BK168.out 2).trans rfl; have hfz14_0 := blk_frozen BK168.out 0; have hfz14_1 := blk_frozen BK168.out 1; have hfz14_2 := blk_frozen BK168.out 2) | ((with_reducible refine gate_callee (f := 63) rfl ?_); refine goesL_ (some 29) rfl rfl Try.func63 (by kernel_rfl) rfl #[.slice (some ad167) l0.length c0, .int .i64 x22_1] rfl (by (try simp only [List.map_toArray, List.map_cons, List.map_nil]); first | done | rfl | (simp only [List.length_drop, List.length_take]; rfl)) ?_; (with_reducible refine (tree_up.calls k1 _ _ l0 x22_1 t169 _ ?side1 ?side2 A9.out).mono ?_); (case side1 => exact Kd.C_below HR0.out (by repeat (first | (with_reducible first | exact HB.out | apply below_alloc | apply pw_below_drewN | apply below_drew1 | refine below_set ?_ GE168.out) | exact HB.out))); (case side2 => exact HC0.out); rintro e w15 ⟨v170, rfl, ho0, hb⟩; refine ⟨_, rfl, ?_⟩; have n0_ := Aside0.mk (Kd.R_elder' (by (with_reducible repeat (first | apply Kd.R_alloc | apply Kd.R_drewN | apply Kd.R_drew)); exact (Kd.R_mono (Kd.R_far (p := ⟨gb168, 2, none⟩) (Kd.R_far (p := ⟨gb168, 1, none⟩) (Kd.R_far (p := ⟨gb168, 0, none⟩) (Kd.R_types HO_8.out BK168.out (by decide)) (fun _ hk => hk.2) (.string ((rd_T57 l0 x22_1).f0))) (fun _ hk => hk.2) (.string ((rd_T57 l0 x22_1).f1))) (fun _ hk => hk.2) (.int .i64 ((rd_T57 l0 x22_1).f2))) (fun _ h_ => h_.1))) (Kd.R_base ho0) hb); have n1_ := Aside0.mk (Kd.R_lower (Kd.R_new' ho0 (Kd.R_lt (by (with_reducible repeat (first | apply Kd.R_alloc | apply Kd.R_drewN | apply Kd.R_drew)); exact (Kd.R_mono (Kd.R_far (p := ⟨gb168, 2, none⟩) (Kd.R_far (p := ⟨gb168, 1, none⟩) (Kd.R_far (p := ⟨gb168, 0, none⟩) (Kd.R_types HO_8.out BK168.out (by decide)) (fun _ hk => hk.2) (.string ((rd_T57 l0 x22_1).f0))) (fun _ hk => hk.2) (.string ((rd_T57 l0 x22_1).f1))) (fun _ hk => hk.2) (.int .i64 ((rd_T57 l0 x22_1).f2))) (fun _ h_ => h_.1))))) (below_size (by repeat (first | (with_reducible first | exact HB.out | apply below_alloc | apply pw_below_drewN | apply below_drew1 | refine below_set ?_ GE168.out) | exact HB.out)))); have n2_ := Aside0.mk (blk_below (g := gb168) (o := .cells #[.string ((rd_T57 l0 x22_1).f0), .string ((rd_T57 l0 x22_1).f1), .int .i64 ((rd_T57 l0 x22_1).f2)] 57 (0, 0)) (by (with_reducible repeat (first | refine blk_drewN ?_ _ | refine blk_drew ?_ | refine blk_alloc ?_ _)); refine blk_put (cs := #[.string ((rd_T57 l0 x22_1).f0), .string ((rd_T57 l0 x22_1).f1), .int .i64 0]) ?_ 2 _ rfl; (with_reducible repeat (first | refine blk_drewN ?_ _ | refine blk_drew ?_ | refine blk_alloc ?_ _)); refine blk_put (cs := #[.string ((rd_T57 l0 x22_1).f0), .string (⟨#[]⟩ : ByteArray), .int .i64 0]) ?_ 1 _ rfl; (with_reducible repeat (first | refine blk_drewN ?_ _ | refine blk_drew ?_ | refine blk_alloc ?_ _)); refine blk_put (cs := #[.string (⟨#[]⟩ : ByteArray), .string (⟨#[]⟩ : ByteArray), .int .i64 0]) ?_ 0 _ rfl; (with_reducible repeat (first | refine blk_drewN ?_ _ | refine blk_drew ?_ | refine blk_alloc ?_ _)); exact BK168.out) hb); have n3_ := Aside0.mk (below_step (by repeat (first | (with_reducible first | exact HB.out | apply below_alloc | apply pw_below_drewN | apply below_drew1 | refine below_set ?_ GE168.out) | exact HB.out)) hb); clear HO_8; clear BK168; clear HB; have HO_8 := n0_; have HO171 := n1_; have BK168 := n2_; have HB := n3_; clear n0_ n1_ n2_ n3_; (try clear hb); (try clear hb2); (try clear hk); (try clear hi); (try clear ho0); obtain ⟨Ao16, co16, eo16⟩ := Kd.R_slice HO171.out; subst eo16) | ((with_reducible refine gate_callee (f := 55) rfl ?_); refine goesL_ (some 31) rfl rfl Try.func55 (by kernel_rfl) rfl #[.slice Ao16 t169.length co16, .string a1] rfl (by (try simp only [List.map_toArray, List.map_cons, List.map_nil]); first | done | rfl | (simp only [List.length_drop, List.length_take]; rfl)) ?_; (with_reducible refine (slices_Contains_string_string.calls k1 _ _ t169 a1 true _ ?side1 ?side2 A10.out).mono ?_); (case side1 => repeat (first | exact (Kd.R_reads' HO171.out).2.2 | (with_reducible refine Kd.C_alloc ?_ _) | (with_reducible refine Kd.C_drewN ?_ _) | (with_reducible refine Kd.C_drew ?_))); (case side2 => exact (Kd.R_reads' HO171.out).2.1); rintro e w' ⟨rfl, ⟨nd, rfl⟩⟩; refine ⟨_, rfl, ?_⟩; have hcz17_0 : w15.cell? ⟨gb168, 0, none⟩ = some (.string ((rd_T57 l0 x22_1).f0)) := (blk_cell BK168.out 0).trans rfl; have hcz17_1 : w15.cell? ⟨gb168, 1, none⟩ = some (.string ((rd_T57 l0 x22_1).f1)) := (blk_cell BK168.out 1).trans rfl; have hcz17_2 : w15.cell? ⟨gb168, 2, none⟩ = some (.int .i64 ((rd_T57 l0 x22_1).f2)) := (blk_cell BK168.out 2).trans rfl; have hfz17_0 := blk_frozen BK168.out 0; have hfz17_1 := blk_frozen BK168.out 1; have hfz17_2 := blk_frozen BK168.out 2) | ((with_reducible refine gate_builtin (b := .append) (xs := #[.tmp 32, .tmp 35]) rfl ?_); at_builtin; refine Kd.R_append Kd.string (w0 := w) w.heap.size rfl (.tmp 32) (.tmp 35) 70 9 (.string ⟨#[]⟩) 16 rfl Try.underlying70 info9 rfl (by decide) (by omega) u8 x8_1 ((rd_T57 l0 x22_1).f0) [.string ((rd_T57 l0 x22_1).f0)] (fun k_ => some k_ ≠ (.slice Ao16 t169.length co16 : Value).ownBlock) (fun _ => False) rfl rfl ?aP (fun _ hk => hk.elim) ?aF ?aO ?aB ?aS ?aL ?_; (case aP => exact rfl); (case aB => exact (by repeat (first | (with_reducible first | exact HB.out | apply below_alloc | apply pw_below_drewN | apply below_drew1 | refine below_set ?_ GE168.out) | exact HB.out))); (case aF => exact (fun k_ hk => Kd.fresh' (Kd.R_lt (by (with_reducible repeat (first | apply Kd.R_alloc | apply Kd.R_drewN | apply Kd.R_drew)); exact HO171.out)) k_ hk)); (case aO => exact (by (with_reducible repeat (first | apply Kd.R_alloc | apply Kd.R_drewN | apply Kd.R_drew)); exact Kd.R_mono HO_8.out (fun _ hk => hk.2))); (case aS => exact (below_size (by repeat (first | (with_reducible first | exact HB.out | apply below_alloc | apply pw_below_drewN | apply below_drew1 | refine below_set ?_ GE168.out) | exact HB.out)))); (case aL => have := LMc12.out; omega); intro v174 w18 ho hb hg hat; rw [← Ny173.out] at ho; have n0_ := Aside0.mk (blk_grown (g := gb168) (o := .cells #[.string ((rd_T57 l0 x22_1).f0), .string ((rd_T57 l0 x22_1).f1), .int .i64 ((rd_T57 l0 x22_1).f2)] 57 (0, 0)) (by (with_reducible repeat (first | refine blk_drewN ?_ _ | refine blk_drew ?_ | refine blk_alloc ?_ _)); exact BK168.out) hg (Kd.R_ne HO_8.out BK168.out (by decide))); have n1_ := Aside0.mk (Kd.R_after (ok := (fun _ => True)) (by (with_reducible repeat (first | apply Kd.R_alloc | apply Kd.R_drewN | apply Kd.R_drew)); exact HO171.out) hg hat); have n2_ := Aside0.mk (hb); have n3_ := Aside0.mk (ho); clear BK168; clear HO171; clear HB; clear HO_8; have BK168 := n0_; have HO171 := n1_; have HB := n2_; have HO175 := n3_; clear n0_ n1_ n2_ n3_; clear ho hb hg hat))
                  go_roundg k1
                  case measure => have := HK1.out; omega
                  case rel => exact ⟨(y173), (wrap64 (x22_1 + 1)), (by first | rfl | (simp; done) | (simp [*]; done)), H', ⟨by have := HK1.out; omega⟩, ⟨by (with_reducible repeat (first | apply Kd.R_alloc | apply Kd.R_drewN | apply Kd.R_drew)); exact Kd.R_mono HO175.out (fun _ hk => trivial)⟩, ⟨by repeat (first | (with_reducible first | exact HB.out | apply below_alloc | apply pw_below_drewN | apply below_drew1 | refine below_set ?_ GE168.out) | exact HB.out)⟩⟩
                · rw [if_neg c12] at H
                  exact absurd H (by simp)
              · replace c11 := Bool.eq_false_iff.mpr c11
                subst c11
                have H1 : (tree_Below.l0 k1 l0 a1 x8_1 l0 (l0.length : Int) (wrap64 (x22_1 + 1))) = some (r1, r2) := by rw [if_neg (show ¬ (false = true) by decide)] at H; exact H
                clear H
                have H := H1
                clear H1
                have H' := Aside0.mk H
                clear H
                have p167 : 0 ≤ (x22_1 : Int) := of_decide_eq_true (by first | (with_reducible assumption) | assumption)
                have q167 : x22_1 < (l0.length : Int) := of_decide_eq_true (by first | (with_reducible assumption) | assumption)
                obtain ⟨ad167, e167, hx167_0, hx167_1, hx167_2⟩ := at_T57 HR0.out x22_1 p167 q167
                cases e167
                replace hx167_0 := (HB.out.cell (World.block_lt_of_cell? w _ hx167_0)).trans hx167_0
                replace hx167_1 := (HB.out.cell (World.block_lt_of_cell? w _ hx167_1)).trans hx167_1
                replace hx167_2 := (HB.out.cell (World.block_lt_of_cell? w _ hx167_2)).trans hx167_2
                replace p167 := eq_true p167
                replace q167 := eq_true q167
                go_wp2_with (first | ((with_reducible refine gate_dst (N := 10) rfl ?_); refine box_event ?hg (N := 10) ?hd (cs := #[.string (⟨#[]⟩ : ByteArray), .string (⟨#[]⟩ : ByteArray), .int .i64 0]) (t := 57) ?hr ?_; (case hd => rfl); (case hg => rfl); (case hr => first | (go_simp; done) | (go_simp; rfl)); intro gb168 hg w19 hbox hb; have n0_ := Aside0.mk (Kd.R_below (by (with_reducible repeat (first | apply Kd.R_alloc | apply Kd.R_drewN | apply Kd.R_drew)); exact HO_8.out) hb); have n1_ := Aside0.mk (below_step (by repeat (first | (with_reducible first | exact HB.out | apply below_alloc | apply pw_below_drewN | apply below_drew1) | exact HB.out)) hb); have n2_ := Aside0.mk (hbox); have n3_ := Aside0.mk ((by rw [hg]; exact (below_size (by repeat (first | (with_reducible first | exact HB.out | apply below_alloc | apply pw_below_drewN | apply below_drew1) | exact HB.out))) : w.heap.size ≤ gb168)); have n4_ := Aside0.mk ((by rw [hg]; exact (below_size (by repeat (first | (with_reducible first | exact HB.out | apply below_alloc | apply pw_below_drewN | apply below_drew1) | exact HB.out))) : w.heap.size ≤ gb168)); clear HO_8; clear HB; have HO_8 := n0_; have HB := n1_; have BK168 := n2_; have GW168 := n3_; have GE168 := n4_; clear n0_ n1_ n2_ n3_ n4_; clear hb hbox hg; have hcz20_0 : w19.cell? ⟨gb168, 0, none⟩ = some (.string (⟨#[]⟩ : ByteArray)) := (blk_cell BK168.out 0).trans rfl; have hcz20_1 : w19.cell? ⟨gb168, 1, none⟩ = some (.string (⟨#[]⟩ : ByteArray)) := (blk_cell BK168.out 1).trans rfl; have hcz20_2 : w19.cell? ⟨gb168, 2, none⟩ = some (.int .i64 0) := (blk_cell BK168.out 2).trans rfl; have hfz20_0 := blk_frozen BK168.out 0; have hfz20_1 := blk_frozen BK168.out 1; have hfz20_2 := blk_frozen BK168.out 2) | ((with_reducible refine gate_callee (f := 63) rfl ?_); refine goesL_ (some 29) rfl rfl Try.func63 (by kernel_rfl) rfl #[.slice (some ad167) l0.length c0, .int .i64 x22_1] rfl (by (try simp only [List.map_toArray, List.map_cons, List.map_nil]); first | done | rfl | (simp only [List.length_drop, List.length_take]; rfl)) ?_; (with_reducible refine (tree_up.calls k1 _ _ l0 x22_1 t169 _ ?side1 ?side2 A9.out).mono ?_); (case side1 => exact Kd.C_below HR0.out (by repeat (first | (with_reducible first | exact HB.out | apply below_alloc | apply pw_below_drewN | apply below_drew1 | refine below_set ?_ GE168.out) | exact HB.out))); (case side2 => exact HC0.out); rintro e w21 ⟨v170, rfl, ho0, hb⟩; refine ⟨_, rfl, ?_⟩; have n0_ := Aside0.mk (Kd.R_elder' (by (with_reducible repeat (first | apply Kd.R_alloc | apply Kd.R_drewN | apply Kd.R_drew)); exact (Kd.R_mono (Kd.R_far (p := ⟨gb168, 2, none⟩) (Kd.R_far (p := ⟨gb168, 1, none⟩) (Kd.R_far (p := ⟨gb168, 0, none⟩) (Kd.R_types HO_8.out BK168.out (by decide)) (fun _ hk => hk.2) (.string ((rd_T57 l0 x22_1).f0))) (fun _ hk => hk.2) (.string ((rd_T57 l0 x22_1).f1))) (fun _ hk => hk.2) (.int .i64 ((rd_T57 l0 x22_1).f2))) (fun _ h_ => h_.1))) (Kd.R_base ho0) hb); have n1_ := Aside0.mk (Kd.R_lower (Kd.R_new' ho0 (Kd.R_lt (by (with_reducible repeat (first | apply Kd.R_alloc | apply Kd.R_drewN | apply Kd.R_drew)); exact (Kd.R_mono (Kd.R_far (p := ⟨gb168, 2, none⟩) (Kd.R_far (p := ⟨gb168, 1, none⟩) (Kd.R_far (p := ⟨gb168, 0, none⟩) (Kd.R_types HO_8.out BK168.out (by decide)) (fun _ hk => hk.2) (.string ((rd_T57 l0 x22_1).f0))) (fun _ hk => hk.2) (.string ((rd_T57 l0 x22_1).f1))) (fun _ hk => hk.2) (.int .i64 ((rd_T57 l0 x22_1).f2))) (fun _ h_ => h_.1))))) (below_size (by repeat (first | (with_reducible first | exact HB.out | apply below_alloc | apply pw_below_drewN | apply below_drew1 | refine below_set ?_ GE168.out) | exact HB.out)))); have n2_ := Aside0.mk (blk_below (g := gb168) (o := .cells #[.string ((rd_T57 l0 x22_1).f0), .string ((rd_T57 l0 x22_1).f1), .int .i64 ((rd_T57 l0 x22_1).f2)] 57 (0, 0)) (by (with_reducible repeat (first | refine blk_drewN ?_ _ | refine blk_drew ?_ | refine blk_alloc ?_ _)); refine blk_put (cs := #[.string ((rd_T57 l0 x22_1).f0), .string ((rd_T57 l0 x22_1).f1), .int .i64 0]) ?_ 2 _ rfl; (with_reducible repeat (first | refine blk_drewN ?_ _ | refine blk_drew ?_ | refine blk_alloc ?_ _)); refine blk_put (cs := #[.string ((rd_T57 l0 x22_1).f0), .string (⟨#[]⟩ : ByteArray), .int .i64 0]) ?_ 1 _ rfl; (with_reducible repeat (first | refine blk_drewN ?_ _ | refine blk_drew ?_ | refine blk_alloc ?_ _)); refine blk_put (cs := #[.string (⟨#[]⟩ : ByteArray), .string (⟨#[]⟩ : ByteArray), .int .i64 0]) ?_ 0 _ rfl; (with_reducible repeat (first | refine blk_drewN ?_ _ | refine blk_drew ?_ | refine blk_alloc ?_ _)); exact BK168.out) hb); have n3_ := Aside0.mk (below_step (by repeat (first | (with_reducible first | exact HB.out | apply below_alloc | apply pw_below_drewN | apply below_drew1 | refine below_set ?_ GE168.out) | exact HB.out)) hb); clear HO_8; clear BK168; clear HB; have HO_8 := n0_; have HO171 := n1_; have BK168 := n2_; have HB := n3_; clear n0_ n1_ n2_ n3_; (try clear hb); (try clear hb2); (try clear hk); (try clear hi); (try clear ho0); obtain ⟨Ao22, co22, eo22⟩ := Kd.R_slice HO171.out; subst eo22) | ((with_reducible refine gate_callee (f := 55) rfl ?_); refine goesL_ (some 31) rfl rfl Try.func55 (by kernel_rfl) rfl #[.slice Ao22 t169.length co22, .string a1] rfl (by (try simp only [List.map_toArray, List.map_cons, List.map_nil]); first | done | rfl | (simp only [List.length_drop, List.length_take]; rfl)) ?_; (with_reducible refine (slices_Contains_string_string.calls k1 _ _ t169 a1 false _ ?side1 ?side2 A10.out).mono ?_); (case side1 => repeat (first | exact (Kd.R_reads' HO171.out).2.2 | (with_reducible refine Kd.C_alloc ?_ _) | (with_reducible refine Kd.C_drewN ?_ _) | (with_reducible refine Kd.C_drew ?_))); (case side2 => exact (Kd.R_reads' HO171.out).2.1); rintro e w' ⟨rfl, ⟨nd, rfl⟩⟩; refine ⟨_, rfl, ?_⟩))
                go_roundg k1
                case measure => have := HK1.out; omega
                case rel => exact ⟨(x8_1), (wrap64 (x22_1 + 1)), (by first | rfl | (simp; done) | (simp [*]; done)), H', ⟨by have := HK1.out; omega⟩, ⟨by (with_reducible repeat (first | apply Kd.R_alloc | apply Kd.R_drewN | apply Kd.R_drew)); exact Kd.R_mono HO_8.out (fun _ hk => trivial)⟩, ⟨by repeat (first | (with_reducible first | exact HB.out | apply below_alloc | apply pw_below_drewN | apply below_drew1 | refine below_set ?_ GE168.out) | exact HB.out)⟩⟩
            · rw [if_neg c8] at H
              exact absurd H (by simp)
          · rw [if_neg c7] at H
            exact absurd H (by simp)
        · rw [if_neg c6] at H
          have c6b0 : decide (x22_1 < (l0.length : Int)) = false := decide_eq_false c6
          clear c6
          simp only [Option.some.injEq, Prod.mk.injEq] at H
          obtain ⟨rfl, rfl⟩ := H
          go_wp2
          go_ret2
          exact ⟨_, by first | rfl | (simp [errW_none, errW_some] <;> rfl) | (simp [*, errW_none, errW_some] <;> rfl), by (with_reducible repeat (first | apply Kd.R_alloc | apply Kd.R_drewN | apply Kd.R_drew)); exact HO_8.out, by repeat (first | (with_reducible first | exact HB.out | apply below_alloc | apply pw_below_drewN | apply below_drew1) | exact HB.out)⟩
  · rw [if_neg c4] at H
    have c4b0 : (t166 == 0) = false := beq_eq_false_iff_ne.mpr c4
    have c4b1 : (t166 != 0) = true := bne_iff_ne.mpr c4
    simp only [Option.some.injEq, Prod.mk.injEq] at H
    obtain ⟨rfl, rfl⟩ := H
    go_enter Try.func49, Try.ntmps49
    go_wp2_with (first | ((with_reducible refine gate_callee (f := 62) rfl ?_); refine goesL_ (some 14) rfl rfl Try.func62 (by kernel_rfl) rfl #[.slice A0 l0.length c0, .string a1] rfl (by (try simp only [List.map_toArray, List.map_cons, List.map_nil]); first | done | rfl | (simp only [List.length_drop, List.length_take]; rfl)) ?_; (with_reducible refine (tree_place.calls _ _ l0 a1 t165 t166 _ ?side1 ?side2 A3.out).mono ?_); (case side1 => repeat (first | exact HR0.out | (with_reducible refine Kd.C_alloc ?_ _) | (with_reducible refine Kd.C_drewN ?_ _) | (with_reducible refine Kd.C_drew ?_))); (case side2 => exact HC0.out); rintro e w23 ⟨rfl, hb⟩; refine ⟨_, rfl, ?_⟩; have n0_ := Aside0.mk (below_step (by repeat (first | (with_reducible first | exact HB.out | apply below_alloc | apply pw_below_drewN | apply below_drew1) | exact HB.out)) hb); clear HB; have HB := n0_; clear n0_; (try clear hb); (try clear hb2); (try clear hk); (try clear hi)))
    go_ret2
    exact ⟨_, by first | rfl | (simp [errW_none, errW_some] <;> rfl) | (simp [*, errW_none, errW_some] <;> rfl), by first | exact Kd.R_nil _ _ _ _ _ | exact Kd.N_nil _ _ _ _ _ | exact Kd.V_nil _ _ _ _ _ | exact Kd.Q_nil _ _ _ _ _ | exact Kd.S_nil _ _ _ _ _, by repeat (first | (with_reducible first | exact HB.out | apply below_alloc | apply pw_below_drewN | apply below_drew1) | exact HB.out)⟩

end Go.Proofs.Ytcnobkcddgcifaa.PT
/- Tree: what the program's functions tell, in plain Lean. -/
set_option linter.unusedVariables false
set_option linter.unusedSimpArgs false
namespace Go.Proofs.Ytcnobkcddgcifaa.PT
open Go.RowKit Go.Proofs.YtcnobkcddgcifaaW.PrintWords Go.Proofs.YtcnobkcddgcifaaW.PrintLast Go.Proofs.YtcnobkcddgcifaaW.PrintMore Go.Proofs.Ytcnobkcddgcifaa.Gen Go.Proofs.Ytcnobkcddgcifaa.EvK
theorem toL_inj {a b : ByteArray} (h : a.toList = b.toList) : a = b := by
  rw [Lib.toList_data, Lib.toList_data] at h
  cases a
  cases b
  congr 1
  exact Array.toList_inj.1 h
theorem isName_iff (s : ByteArray) (x : S57) : isName s x = true ↔ x.f0 = s := by
  unfold isName
  rw [beq_iff_eq]
  exact ⟨toL_inj, fun h => by rw [h]⟩
/-! ### where an account stands -/
theorem found_at {l : List S57} {s : ByteArray} (h : (findA l s).2 = true) : ∃ p, ∃ hp : p < l.length, findA l s = ((p : Int), true) ∧ l[p].f0 = s := by
  have ha : l.any (isName s) = true := h
  have hlt : l.findIdx (isName s) < l.length := List.findIdx_lt_length.2 (by simpa using ha)
  refine ⟨l.findIdx (isName s), hlt, ?_, (isName_iff s _).1 List.findIdx_getElem⟩
  unfold findA idxOf
  rw [if_pos ha, ha]
  congr 1
  omega
theorem found_mem {l : List S57} {s : ByteArray} : (findA l s).2 = true ↔ ∃ j, ∃ hj : j < l.length, l[j].f0 = s := by
  constructor
  · intro h
    obtain ⟨p, hp, _, h2⟩ := found_at h
    exact ⟨p, hp, h2⟩
  · rintro ⟨j, hj, h⟩
    show l.any (isName s) = true
    exact List.any_eq_true.2 ⟨l[j], List.getElem_mem hj, (isName_iff s _).2 h⟩
/-- Every account stands rightly behind those ahead of it. -/
def TreeOK (l : List S57) : Prop := ∀ j (hj : j < l.length), okA (l.take j) l[j] = true
theorem allA_ok (l : List S57) : ∀ n, n ≤ l.length → (allA l n = true ↔ ∀ j (hj : j < l.length), j < n → okA (l.take j) l[j] = true)
  | 0, _ => ⟨fun _ j _ h => by omega, fun _ => rfl⟩
  | n + 1, hn => by
    rw [allA_step l n (by omega), Bool.and_eq_true, allA_ok l n (by omega)]
    constructor
    · rintro ⟨h1, h2⟩ j hj hjn
      rcases Nat.lt_or_ge j n with h3 | h3
      · exact h1 j hj h3
      · obtain rfl : j = n := by omega
        exact h2
    · intro h
      exact ⟨fun j hj hjn => h j hj (by omega), h n (by omega) (by omega)⟩
theorem right_iff (l : List S57) : rightA l = true ↔ TreeOK l ∧ 1 ≤ l.length ∧ l.length ≤ 16 := by
  unfold rightA TreeOK
  rw [Bool.and_eq_true, allA_ok l _ (Nat.le_refl _), decide_eq_true_iff]
  exact ⟨fun h => ⟨fun j hj => h.1 j hj hj, h.2⟩, fun h => ⟨fun j hj _ => h.1 j hj, h.2⟩⟩
theorem okA_iff (a : List S57) (x : S57) : okA a x = true ↔ (findA a x.f0).2 = false ∧ nameOK x.f0 = true ∧ ((findA a x.f1).2 = true ∨ x.f1.toList = []) ∧ (-1 ≤ x.f2 ∧ x.f2 ≤ 1073741824) := by
  unfold okA
  simp [Bool.and_eq_true, Bool.or_eq_true, and_assoc]
theorem tree_apart {l : List S57} (T : TreeOK l) {i j : Nat} (hi : i < l.length) (hj : j < l.length) (h : l[i].f0 = l[j].f0) : i = j := by
  have key : ∀ a b (ha : a < l.length) (hb : b < l.length), a < b → l[a].f0 ≠ l[b].f0 := by
    intro a b ha hb hab he
    have h1 := ((okA_iff _ _).1 (T b hb)).1
    have h2 : (findA (l.take b) l[b].f0).2 = true := found_mem.2 ⟨a, by simp; omega, by simpa using he⟩
    rw [h1] at h2
    cases h2
  rcases Nat.lt_trichotomy i j with h1 | h1 | h1
  · exact absurd h (key i j hi hj h1)
  · exact h1
  · exact absurd h.symm (key j i hj hi h1)
theorem find_self {l : List S57} (T : TreeOK l) {i : Nat} (hi : i < l.length) {s : ByteArray} (h : l[i].f0 = s) : findA l s = ((i : Int), true) := by
  obtain ⟨p, hp, he, hf⟩ := found_at (found_mem.2 ⟨i, hi, h⟩)
  obtain rfl := tree_apart T hp hi (hf.trans h.symm)
  exact he
theorem par_lt {l : List S57} (T : TreeOK l) {i : Nat} (hi : i < l.length) (he : ¬ l[i].f1.toList = []) : ∃ p, ∃ hp : p < l.length, p < i ∧ findA l l[i].f1 = ((p : Int), true) ∧ l[p].f0 = l[i].f1 := by
  have h1 := ((okA_iff _ _).1 (T i hi)).2.2.1
  rcases h1 with h1 | h1
  · obtain ⟨j, hj, hjf⟩ := found_mem.1 h1
    have hj2 : j < i := by simp at hj; omega
    have hjf2 : l[j].f0 = l[i].f1 := by simpa using hjf
    exact ⟨j, by omega, hj2, find_self T (by omega) hjf2, hjf2⟩
  · exact absurd h1 he
/-! ### paths -/
/-- The path's rest, with fuel. -/
def restA (l : List S57) : Nat → Nat → List ByteArray
  | 0, _ => []
  | f + 1, i => if ((rd_T57 l (i : Int)).f1).toList = [] then [] else (rd_T57 l (findA l (rd_T57 l (i : Int)).f1).1).f0 :: restA l f (findA l (rd_T57 l (i : Int)).f1).1.toNat
def upsA (l : List S57) (i : Nat) : List ByteArray := (rd_T57 l (i : Int)).f0 :: restA l i i
theorem rest_top {l : List S57} (f : Nat) {i : Nat} (hi : i < l.length) (h : l[i].f1.toList = []) : restA l f i = [] := by
  cases f with
  | zero => rfl
  | succ f => rw [restA, rdA l i hi, if_pos h]
theorem rest_on {l : List S57} (f : Nat) {i p : Nat} (hi : i < l.length) (hp : p < l.length) (h : ¬ l[i].f1.toList = []) (hf : findA l l[i].f1 = ((p : Int), true)) : restA l (f + 1) i = l[p].f0 :: restA l f p := by
  rw [restA, rdA l i hi, if_neg h, hf]
  simp only [Int.toNat_natCast]
  rw [rdA l p hp]
theorem rest_fuel {l : List S57} (T : TreeOK l) : ∀ f g i, i < l.length → i ≤ f → i ≤ g → restA l f i = restA l g i
  | 0, g, i, hi, hf, hg => by
    obtain rfl : i = 0 := by omega
    by_cases h : l[0].f1.toList = []
    · rw [rest_top _ hi h, rest_top _ hi h]
    · obtain ⟨p, hp, h1, _⟩ := par_lt T hi h
      omega
  | f + 1, 0, i, hi, hf, hg => by
    obtain rfl : i = 0 := by omega
    by_cases h : l[0].f1.toList = []
    · rw [rest_top _ hi h, rest_top _ hi h]
    · obtain ⟨p, hp, h1, _⟩ := par_lt T hi h
      omega
  | f + 1, g + 1, i, hi, hf, hg => by
    by_cases h : l[i].f1.toList = []
    · rw [rest_top _ hi h, rest_top _ hi h]
    · obtain ⟨p, hp, h1, h2, h3⟩ := par_lt T hi h
      rw [rest_on f hi hp h h2, rest_on g hi hp h h2, rest_fuel T f g p hp (by omega) (by omega)]
theorem rest_step {l : List S57} (T : TreeOK l) {i p : Nat} (hi : i < l.length) (hp : p < l.length) (hpi : p < i) (h : ¬ l[i].f1.toList = []) (hf : findA l l[i].f1 = ((p : Int), true)) : restA l i i = upsA l p := by
  obtain ⟨j, rfl⟩ : ∃ j, i = j + 1 := ⟨i - 1, by omega⟩
  rw [rest_on j hi hp h hf, rest_fuel T j p p hp (by omega) (by omega), upsA, rdA l p hp]
theorem ups_eq {l : List S57} {i : Nat} (hi : i < l.length) : upsA l i = l[i].f0 :: restA l i i := by rw [upsA, rdA l i hi]
theorem rest_names {l : List S57} (T : TreeOK l) : ∀ n i, i < n → ∀ hi : i < l.length, ∀ s ∈ restA l i i, ∃ p, ∃ hp : p < l.length, p < i ∧ s = l[p].f0
  | 0, i, h, hi, s, hs => by omega
  | n + 1, i, h, hi, s, hs => by
    by_cases he : l[i].f1.toList = []
    · rw [rest_top _ hi he] at hs
      cases hs
    · obtain ⟨p, hp, h1, h2, h3⟩ := par_lt T hi he
      rw [rest_step T hi hp h1 he h2, ups_eq hp] at hs
      rcases List.mem_cons.1 hs with h4 | h4
      · exact ⟨p, hp, h1, h4⟩
      · obtain ⟨q, hq, h5, h6⟩ := rest_names T n p (by omega) hp s h4
        exact ⟨q, hq, by omega, h6⟩
theorem rest_len {l : List S57} (T : TreeOK l) : ∀ n i, i < n → i < l.length → (restA l i i).length ≤ i
  | 0, i, h, hi => by omega
  | n + 1, i, h, hi => by
    by_cases he : l[i].f1.toList = []
    · rw [rest_top _ hi he]
      simp
    · obtain ⟨p, hp, h1, h2, h3⟩ := par_lt T hi he
      rw [rest_step T hi hp h1 he h2, ups_eq hp]
      have := rest_len T n p (by omega) hp
      simp
      omega
theorem up_l0 {l : List S57} (T : TreeOK l) : ∀ n i, i < n → ∀ hi : i < l.length, ∀ acc : List ByteArray, acc.length + i < 8796093022208 → Ev (fun k => tree_up.l0 k l (i : Int) acc) (acc ++ restA l i i)
  | 0, i, h, hi, acc, ha => by omega
  | n + 1, i, h, hi, acc, ha => by
    refine Ev.stp (fun k => by rw [tree_up.l0]) (Ev.pos (by omega) (Ev.pos (by omega) ?_))
    rw [rdA l i hi]
    by_cases he : l[i].f1.toList = []
    · refine Ev.pos he ?_
      rw [rest_top _ hi he, List.append_nil]
      exact Ev.one rfl
    · obtain ⟨p, hp, h1, h2, h3⟩ := par_lt T hi he
      refine Ev.neg he (Ev.bnd (Ev.const rfl) ?_)
      rw [h2]
      refine Ev.pos (by simp only; omega) (Ev.pos (by simp only; omega) (Ev.pos (by omega) ?_))
      simp only
      rw [rdA l p hp, rest_step T hi hp h1 he h2, ups_eq hp, show acc ++ l[p].f0 :: restA l p p = acc ++ [l[p].f0] ++ restA l p p by simp]
      exact up_l0 T n p (by omega) hp (acc ++ [l[p].f0]) (by rw [List.length_append, List.length_singleton]; omega)
theorem up_ev {l : List S57} (T : TreeOK l) (hl : l.length ≤ 16) {i : Nat} (hi : i < l.length) : Ev (fun k => tree_up.f k l (i : Int)) (upsA l i) := by
  unfold tree_up.f
  refine Ev.pos (by omega) (Ev.pos (by omega) ?_)
  rw [rdA l i hi, ups_eq hi]
  exact up_l0 T (i + 1) i (by omega) hi [l[i].f0] (by simp; omega)
def pathA (l : List S57) (s : ByteArray) : List ByteArray × Int := if rightA l = true then (if (findA l s).2 = true then (upsA l (findA l s).1.toNat, 0) else ([], 141)) else ([], 2)
theorem place_f (l : List S57) (s : ByteArray) : tree_place.f l s = some (if rightA l = true then (if (findA l s).2 = true then ((findA l s).1, 0) else (0, 141)) else (0, 2)) := by
  unfold tree_place.f
  show (some (rightA l)).bind _ = _
  rw [Option.bind_some]
  split
  · show (some (findA l s)).bind _ = _
    rw [Option.bind_some]
    split <;> rfl
  · rfl
theorem place_ok {l : List S57} {s : ByteArray} (hr : rightA l = true) {p : Nat} (he : findA l s = ((p : Int), true)) : tree_place.f l s = some ((p : Int), 0) := by rw [place_f, if_pos hr, he]; rfl
theorem place_no {l : List S57} {s : ByteArray} (hr : rightA l = true) (he : (findA l s).2 = false) : tree_place.f l s = some (0, 141) := by rw [place_f, if_pos hr, he]; rfl
theorem place_bad {l : List S57} {s : ByteArray} (hr : ¬ rightA l = true) : tree_place.f l s = some (0, 2) := by rw [place_f, if_neg hr]
theorem path_ev (l : List S57) (s : ByteArray) : Ev (fun k => tree_Path.f k l s) (pathA l s) := by
  unfold tree_Path.f pathA
  by_cases hr : rightA l = true
  · obtain ⟨T, _, hl⟩ := (right_iff l).1 hr
    rw [if_pos hr]
    cases hf : (findA l s).2 with
    | true =>
      obtain ⟨p, hp, he, _⟩ := found_at hf
      rw [if_pos rfl, he]
      exact Ev.bnd (Ev.const (place_ok hr he)) (Ev.pos rfl (Ev.bnd (up_ev T hl hp) (Ev.one rfl)))
    | false =>
      rw [if_neg (by decide)]
      exact Ev.bnd (Ev.const (place_no hr hf)) (Ev.neg (by decide) (Ev.one rfl))
  · rw [if_neg hr]
    exact Ev.bnd (Ev.const (place_bad hr)) (Ev.neg (by decide) (Ev.one rfl))
/-! ### lists of names -/
def hasB (L : List ByteArray) (s : ByteArray) : Bool := L.any (fun x => x.toList == s.toList)
theorem hasB_iff (L : List ByteArray) (s : ByteArray) : hasB L s = true ↔ s ∈ L := by
  unfold hasB
  rw [List.any_eq_true]
  constructor
  · rintro ⟨x, hx, h⟩
    rw [← toL_inj (beq_iff_eq.1 h)]
    exact hx
  · intro h
    exact ⟨s, h, by simp⟩
theorem drop_any (L : List ByteArray) (p : ByteArray → Bool) (j : Nat) (h : j < L.length) : (L.drop j).any p = (p L[j] || (L.drop (j + 1)).any p) := by
  rw [List.drop_eq_getElem_cons h, List.any_cons]
theorem rdB (L : List ByteArray) (j : Nat) (h : j < L.length) : rdOf ByteArray.empty L (j : Int) = L[j] := rdOf_nat _ L j h
theorem index_l0 (L : List ByteArray) (s : ByteArray) (hL : L.length < 9000000000000000000) : ∀ d j, L.length - j = d → j ≤ L.length → ∃ r : Int, Ev (fun k => slices_Index_string_string.l0 k L s (L.length : Int) (j : Int)) r ∧ decide (r ≥ 0) = (L.drop j).any (fun x => x.toList == s.toList)
  | 0, j, hd, hj => ⟨-1, Ev.stp (fun k => by rw [slices_Index_string_string.l0]) (Ev.neg (by omega) (Ev.one rfl)), by rw [List.drop_of_length_le (by omega)]; rfl⟩
  | d + 1, j, hd, hj => by
    have hlt : j < L.length := by omega
    rw [drop_any L _ j hlt]
    by_cases h : L[j].toList = s.toList
    · refine ⟨j, Ev.stp (fun k => by rw [slices_Index_string_string.l0]) (Ev.pos (by omega) (Ev.pos (by omega) (Ev.pos (by omega) ?_))), ?_⟩
      · rw [rdB L j hlt]
        exact Ev.pos h.symm (Ev.one rfl)
      · simp [h]
    · obtain ⟨r, h1, h2⟩ := index_l0 L s hL d (j + 1) (by omega) (by omega)
      refine ⟨r, Ev.stp (fun k => by rw [slices_Index_string_string.l0]) (Ev.pos (by omega) (Ev.pos (by omega) (Ev.pos (by omega) ?_))), ?_⟩
      · rw [rdB L j hlt, wr1 (by omega)]
        exact Ev.neg (fun e => h e.symm) h1
      · rw [h2]
        simp [h]
theorem contains_ev (L : List ByteArray) (s : ByteArray) (hL : L.length < 9000000000000000000) : Ev (fun k => slices_Contains_string_string.f k L s) (hasB L s) := by
  obtain ⟨r, h1, h2⟩ := index_l0 L s hL _ 0 rfl (by omega)
  unfold slices_Contains_string_string.f
  refine Ev.bnd (a := r) h1 (Ev.one ?_)
  rw [h2]
  rfl
/-! ### what lies below -/
def belA (l : List S57) (s : ByteArray) : Nat → List ByteArray
  | 0 => []
  | n + 1 => belA l s n ++ (if hasB (upsA l n) s = true then [(rd_T57 l (n : Int)).f0] else [])
theorem belA_len (l : List S57) (s : ByteArray) : ∀ n, (belA l s n).length ≤ n
  | 0 => by simp [belA]
  | n + 1 => by
    have := belA_len l s n
    rw [belA, List.length_append]
    split <;> simp <;> omega
theorem belA_mem (l : List S57) (s a : ByteArray) : ∀ n, n ≤ l.length → (a ∈ belA l s n ↔ ∃ i, ∃ hi : i < l.length, i < n ∧ hasB (upsA l i) s = true ∧ l[i].f0 = a)
  | 0, _ => by simp [belA]
  | n + 1, hn => by
    rw [belA, List.mem_append, belA_mem l s a n (by omega)]
    constructor
    · rintro (⟨i, hi, h1, h2⟩ | h)
      · exact ⟨i, hi, by omega, h2⟩
      · split at h
        · rename_i hs
          rw [rdA l n (by omega)] at h
          exact ⟨n, by omega, by omega, hs, (List.mem_singleton.1 h).symm⟩
        · cases h
    · rintro ⟨i, hi, h1, h2, h3⟩
      rcases Nat.lt_or_ge i n with h4 | h4
      · exact Or.inl ⟨i, hi, h4, h2, h3⟩
      · obtain rfl : i = n := by omega
        right
        rw [if_pos h2, rdA l i hi, h3]
        simp
theorem ups_len {l : List S57} (T : TreeOK l) {i : Nat} (hi : i < l.length) : (upsA l i).length ≤ i + 1 := by
  have := rest_len T (i + 1) i (by omega) hi
  simp [upsA]
  omega
theorem below_l0 {l : List S57} (T : TreeOK l) (hl : l.length ≤ 16) (s : ByteArray) : ∀ d j, l.length - j = d → j ≤ l.length → Ev (fun k => tree_Below.l0 k l s (belA l s j) l (l.length : Int) (j : Int)) (belA l s l.length, 0)
  | 0, j, hd, hj => Ev.stp (fun k => by rw [tree_Below.l0]) (Ev.neg (by omega) (Ev.one (by rw [show j = l.length by omega])))
  | d + 1, j, hd, hj => by
    have hlt : j < l.length := by omega
    have hlen := ups_len T hlt
    have hb := belA_len l s j
    refine Ev.stp (fun k => by rw [tree_Below.l0]) (Ev.pos (by omega) (Ev.pos (by omega) (Ev.pos (by omega) (Ev.bnd (up_ev T hl hlt) (Ev.bnd (contains_ev (upsA l j) s (by omega)) ?_)))))
    have ih := below_l0 T hl s d (j + 1) (by omega) (by omega)
    rw [wr1 (by omega)]
    rw [belA] at ih
    cases hh : hasB (upsA l j) s with
    | true =>
      rw [hh, if_pos rfl] at ih
      exact Ev.pos rfl (Ev.pos (by omega) ih)
    | false =>
      rw [hh, if_neg (by decide), List.append_nil] at ih
      exact Ev.neg (by decide) ih
def belowA (l : List S57) (s : ByteArray) : List ByteArray × Int := if rightA l = true then (if (findA l s).2 = true then (belA l s l.length, 0) else ([], 141)) else ([], 2)
theorem below_ev (l : List S57) (s : ByteArray) : Ev (fun k => tree_Below.f k l s) (belowA l s) := by
  unfold tree_Below.f belowA
  by_cases hr : rightA l = true
  · obtain ⟨T, _, hl⟩ := (right_iff l).1 hr
    rw [if_pos hr]
    cases hf : (findA l s).2 with
    | true =>
      obtain ⟨p, hp, he, _⟩ := found_at hf
      rw [if_pos rfl]
      exact Ev.bnd (Ev.const (place_ok hr he)) (Ev.pos rfl (below_l0 T hl s _ 0 rfl (by omega)))
    | false =>
      rw [if_neg (by decide)]
      exact Ev.bnd (Ev.const (place_no hr hf)) (Ev.neg (by decide) (Ev.one rfl))
  · rw [if_neg hr]
    exact Ev.bnd (Ev.const (place_bad hr)) (Ev.neg (by decide) (Ev.one rfl))
/-! ### limits -/
end Go.Proofs.Ytcnobkcddgcifaa.PT
/- quota.count, used, Qos: what runs is counted. (A part of the print PT.) -/
set_option linter.unusedVariables false
set_option linter.unusedSimpArgs false
namespace Go.Proofs.Ytcnobkcddgcifaa.PT
open Go.RowKit Go.Proofs.YtcnobkcddgcifaaW.PrintWords Go.Proofs.YtcnobkcddgcifaaW.PrintLast Go.Proofs.YtcnobkcddgcifaaW.PrintMore Go.Proofs.Ytcnobkcddgcifaa.Gen Go.Proofs.Ytcnobkcddgcifaa.EvK
theorem infoJob : (Try.prog.info? 53).map (·.size) = some 17 := by kernel_rfl
theorem infoSpec : (Try.prog.info? 32).map (·.size) = some 8 := by kernel_rfl
def specC (x : S32) (A : Option Addr) (c : Nat) : Array Value := #[.string x.f0, .string x.f1, .string x.f2, .string x.f3, .int .i64 x.f4, .int .i64 x.f5, .int .i64 x.f6, .slice A x.f7.length c]
def jobC (x : S53) (A : Option Addr) (c : Nat) : Array Value := #[.int .i64 x.f0, .int .i64 x.f1, .int .i64 x.f2, .string x.f3.f0, .string x.f3.f1, .string x.f3.f2, .string x.f3.f3, .int .i64 x.f3.f4, .int .i64 x.f3.f5, .int .i64 x.f3.f6, .slice A x.f3.f7.length c, .int .u8 x.f4, .int .i64 x.f5, .int .i64 x.f6, .int .i64 x.f7, .int .u32 x.f8, .int .i64 x.f9]
theorem spec_ld {w : World} {g : Nat} {x : S53} {A : Option Addr} {c : Nat} (h : w.heap[g]? = some (.cells (jobC x A c) 53 (0, 0))) : (Instr.loadAt 32 (.pointer (some ⟨g, 3, none⟩))).run Try.prog w = .ok (.agg (specC x.f3 A c)) w := by
  refine (run_loadAt_mid (P := Try.prog) w g 3 32 (specC x.f3 A c).toList _ ?_ Try.underlying32 rfl infoSpec)
  intro j v hv
  rw [blk_cell h]
  match j, hv with
  | 0, hv => exact hv
  | 1, hv => exact hv
  | 2, hv => exact hv
  | 3, hv => exact hv
  | 4, hv => exact hv
  | 5, hv => exact hv
  | 6, hv => exact hv
  | 7, hv => exact hv
  | j + 8, hv => simp [specC] at hv
set_option maxRecDepth 100000 in
set_option maxHeartbeats 4000000 in
theorem count_calls (l : List S53) (A : Option Addr) (c : Nat) (w : World) (hr : Kd.C k53 w A l.length l) (hc : l.length ≤ c) (T : Tame l) (g : FuncId) (caps : Array Value) (he : ∀ args w, (callFunc g args).run Try.prog w = .ok (.enter g args) w) (p : S32 → Bool)
    (hf : ∀ (x : S32) (A7 : Option Addr) (c7 : Nat) (W : World), Below w.heap.size w W → Calls Try.prog g (#[.agg (specC x A7 c7)] ++ caps) W fun e w2 => e = .returned (.bool (p x)) ∧ Below W.heap.size W w2) :
    Calls Try.prog 34 #[.slice A l.length c, .func (.func g) #[] caps] w fun e w' => e = .returned (.tuple #[.int .i64 (sumQ p l), .int .i64 (numQ p l : Nat)]) ∧ Below w.heap.size w w' := by
  have hln : l.length ≤ 9223372036854775807 := hr.2.1
  have HR := Lib.hid hr
  have HT := Lib.hid T
  have HF := Lib.hid hf
  have HB0 := Lib.hid (Below.refl w.heap.size w)
  clear hr hc T hf
  go_enter Try.func34, Try.ntmps34
  go_wp2
  go_loopw [6, 7, 12] (fun v6 v7 v12 wr => ∃ (j : Nat) (s : Int) (n : Nat), j ≤ l.length ∧ v6 = .int .i64 s ∧ v7 = .int .i64 n ∧ v12 = .int .i64 j ∧ Hid (s = sumQ p (l.take j) ∧ n = numQ p (l.take j)) ∧ Hid (Below w.heap.size w wr)) (fun _ _ v12 _ => l.length - (intOf v12).toNat)
  case atStart => exact ⟨0, 0, 0, Nat.zero_le _, rfl, rfl, rfl, Lib.hid ⟨rfl, rfl⟩, HB0⟩
  case round =>
    obtain ⟨j, s, n, hj, rfl, rfl, rfl, HV, HB⟩ := hrel
    by_cases hlt : j < l.length
    · obtain ⟨ad, cs, e1, hK, hld0⟩ := load_mid (t := 53) Try.underlying53 rfl infoJob HR.out j hlt
      obtain ⟨x, hx⟩ : ∃ x, x = l[j] := ⟨_, rfl⟩
      rw [← hx] at hK
      have hbs := HT.out.take (p := p) j
      have htm := HT.out.1 l[j] (List.getElem_mem hlt)
      have hln2 := HT.out.2
      have hst := sum_take p l j hlt
      have hnt := num_take p l j hlt
      rw [← HV.out.1] at hst hbs
      rw [← HV.out.2] at hnt hbs
      rw [← hx] at hst hnt htm
      have HST := Lib.hid (And.intro hst hnt)
      have htm2 := (tame_iff _).1 htm
      have hmr := mul_range htm2.1 htm2.2.1 htm2.2.2.1 htm2.2.2.2
      clear hx hst hnt htm htm2
      obtain ⟨A10, c10, rfl, l10, g10⟩ := k53_open hK
      clear hK l10 g10
      have hld : (Instr.loadAt 53 (.pointer (some (ad.add (j * 17))))).run Try.prog wr = .ok (.agg (jobC x A10 c10)) wr := hld0 wr HB.out
      clear hld0
      cases e1
      unfold jobC at hld
      go_upto_region 5 with ((with_reducible refine gate_ (.load 53 (.tmp 14)) rfl ?_); refine wl_load 53 (.tmp 14) rfl rfl _ _ rfl hld ?_)
      have HO : Hid ((wr.alloc (.cells (jobC x A10 c10) 53)).heap[wr.heap.size]? = some (.cells (jobC x A10 c10) 53 (0, 0))) := Lib.hid (heap_alloc_new wr _)
      have HB6 := Lib.hid (below_then HB.out HB.out.size (below_alloc (Below.refl wr.heap.size wr) (.cells (jobC x A10 c10) 53)))
      unfold jobC at HO HB6
      clear hld HB
      generalize wr.alloc _ = W6 at HO HB6 ⊢
      obtain ⟨gb, hgb⟩ : ∃ g, g = wr.heap.size := ⟨_, rfl⟩
      rw [← hgb] at HO ⊢
      clear hgb
      have c11 : W6.cell? ⟨gb, 11, none⟩ = some (.int .u8 x.f4) := (blk_cell HO.out 11).trans rfl
      have hldS := spec_ld (x := x) (A := A10) (c := c10) HO.out
      cases hs : (x.f4 == 2) with
      | false =>
        have HH : Hid (hit p x = false) := Lib.hid (by unfold hit; rw [hs]; rfl)
        go_wp2
        go_roundw
        case rel => exact ⟨j + 1, s, n, by omega, rfl, rfl, by go_num, Lib.hid (by
          have h1 := HST.out
          rw [h1.1, h1.2]
          unfold oneQ
          rw [HH.out]
          simp), HB6⟩
        case measure => simp [intOf]; omega
      | true =>
        go_wp2_with (first | ((with_reducible refine gate_ (.load 32 (.tmp 21)) rfl ?_); (refine gate_guard (by rfl) ?_; dsimp only); refine wl_load 32 (.tmp 21) rfl rfl _ _ rfl hldS ?_) | fail)
        refine (HF.out x.f3 A10 c10 W6 HB6.out).mono ?_
        rintro e w1 ⟨rfl, hb⟩
        have HO1 := Lib.hid ((hb.block gb (blk_lt HO.out)).trans HO.out)
        have HB1 := Lib.hid (below_then HB6.out HB6.out.size hb)
        clear hb hldS c11
        cases hp : p x.f3 with
        | false =>
          have HH : Hid (hit p x = false) := Lib.hid (by unfold hit; rw [hs, hp]; rfl)
          go_wp2
          go_roundw
          case rel => exact ⟨j + 1, s, n, by omega, rfl, rfl, by go_num, Lib.hid (by
            have h1 := HST.out
            rw [h1.1, h1.2]
            unfold oneQ
            rw [HH.out]
            simp), HB1⟩
          case measure => simp [intOf]; omega
        | true =>
          have HH : Hid (hit p x = true) := Lib.hid (by unfold hit; rw [hs, hp]; rfl)
          have c7 : w1.cell? ⟨gb, 7, none⟩ = some (.int .i64 x.f3.f4) := (blk_cell HO1.out 7).trans rfl
          have c8 : w1.cell? ⟨gb, 8, none⟩ = some (.int .i64 x.f3.f5) := (blk_cell HO1.out 8).trans rfl
          obtain ⟨m, hm⟩ : ∃ m, m = x.f3.f4 * x.f3.f5 := ⟨_, rfl⟩
          have hm2 := hm.symm
          rw [← hm] at hmr
          have v1 : IntKind.i64.wrap m = m := by rw [IntKind.wrap_i64]; omega
          have v2 : IntKind.i64.wrap (s + m) = s + m := by rw [IntKind.wrap_i64]; omega
          have v3 : IntKind.i64.wrap ((n : Int) + 1) = (n : Int) + 1 := by rw [IntKind.wrap_i64]; omega
          have u1 : wrap64 m = m := by unfold wrap64; omega
          have u2 : wrap64 (s + m) = s + m := by unfold wrap64; omega
          have u3 : wrap64 ((n : Int) + 1) = (n : Int) + 1 := by unfold wrap64; omega
          have HM := Lib.hid hm
          clear hm
          go_wp2
          go_roundw
          case rel => exact ⟨j + 1, s + m, n + 1, by omega, rfl, by go_num, by go_num, Lib.hid (by
            have h1 := HST.out
            rw [h1.1, h1.2]
            unfold oneQ
            rw [HH.out, HM.out]
            simp), HB1⟩
          case measure => simp [intOf]; omega
    · obtain rfl : j = l.length := by omega
      have HE : Hid (s = sumQ p l ∧ n = numQ p l) := Lib.hid (by have := HV.out; rwa [List.take_length] at this)
      clear HV
      go_wp2
      go_ret2
      exact ⟨by rw [HE.out.1, HE.out.2]; rfl, HB.out⟩
end Go.Proofs.Ytcnobkcddgcifaa.PT
-- printed by wprint.py (this session's program over the kit's print.py)
namespace Go.Proofs.Ytcnobkcddgcifaa.PT
open Go.RowKit Go.Proofs.YtcnobkcddgcifaaW.PrintWords Go.Proofs.YtcnobkcddgcifaaW.PrintLast Go.Proofs.YtcnobkcddgcifaaW.PrintMore
attribute [local go_sem] max2_int min2_int max_two min_two max_three min_three max_four min_four   -- for this text's walks alone
set_option linter.unusedVariables false
set_option linter.unusedSimpArgs false

/-! ### tree_Name: function 37 -/
def tree_Name.f (a0 : ByteArray) : Option (Bool) := some (nameOK a0)
theorem tree_Name.calls (a0 : ByteArray) (r : Bool) (w : World) (h : tree_Name.f a0 = some r) : Calls Try.prog 37 #[.string a0] w fun e w' => e = .returned (.bool r) ∧ Below w.heap.size w w' := by
  obtain rfl := Option.some.inj h
  exact name_calls a0 w

end Go.Proofs.Ytcnobkcddgcifaa.PT
-- printed by wprint.py (this session's program over the kit's print.py)
namespace Go.Proofs.Ytcnobkcddgcifaa.PT
open Go.RowKit Go.Proofs.YtcnobkcddgcifaaW.PrintWords Go.Proofs.YtcnobkcddgcifaaW.PrintLast Go.Proofs.YtcnobkcddgcifaaW.PrintMore
attribute [local go_sem] max2_int min2_int max_two min_two max_three min_three max_four min_four   -- for this text's walks alone
set_option linter.unusedVariables false
set_option linter.unusedSimpArgs false

/-! ### quota_find: function 33 -/
def quota_find.f (l0 : List (S59)) (a1 : ByteArray) : Option (Int) := some (Go.Proofs.Ytcnobkcddgcifaa.Gen.idxOf l0 (isQ a1))
theorem quota_find.calls (A0 : Option Addr) (c0 : Nat) (l0 : List (S59)) (a1 : ByteArray) (r : Int) (w : World) (hr0 : Kd.C k59 w A0 l0.length l0) (hc0 : l0.length ≤ c0) (h : quota_find.f l0 a1 = some r) : Calls Try.prog 33 #[.slice A0 l0.length c0, .string a1] w fun e w' => e = .returned (.int .i64 r) ∧ Below w.heap.size w w' := by
  obtain rfl := Option.some.inj h
  exact qfind_calls l0 A0 c0 a1 w hr0 hc0

end Go.Proofs.Ytcnobkcddgcifaa.PT
-- printed by wprint.py (this session's program over the kit's print.py)
namespace Go.Proofs.Ytcnobkcddgcifaa.PT
open Go.RowKit Go.Proofs.YtcnobkcddgcifaaW.PrintWords Go.Proofs.YtcnobkcddgcifaaW.PrintLast Go.Proofs.YtcnobkcddgcifaaW.PrintMore
attribute [local go_sem] max2_int min2_int max_two min_two max_three min_three max_four min_four   -- for this text's walks alone
set_option linter.unusedVariables false
set_option linter.unusedSimpArgs false

/-! ### quota_limit: function 38 -/
def quota_limit.f (l0 : List Int) : Option (Bool) := some (limQ l0)
theorem quota_limit.calls (A0 : Option Addr) (c0 : Nat) (l0 : List Int) (r : Bool) (w : World) (hr0 : Kd.C (Kd.int .i64) w A0 l0.length l0) (hc0 : l0.length ≤ c0) (h : quota_limit.f l0 = some r) : Calls Try.prog 38 #[.slice A0 l0.length c0] w fun e w' => e = .returned (.bool r) ∧ Below w.heap.size w w' := by
  obtain rfl := Option.some.inj h
  exact limit_calls l0 A0 c0 w hr0 hc0

end Go.Proofs.Ytcnobkcddgcifaa.PT
