-- printed by wprint.py (this session's program over the kit's print.py)
import Derived.Test.YthcikldhlohjbaaPTx0
import Derived.Test.YthcikldhlohjbaaPTx7
import Derived.Test.YthcikldhlohjbaaPTx18
namespace Go.Proofs.Ythcikldhlohjbaa.PT
open Go.RowKit Go.Proofs.YthcikldhlohjbaaW.PrintWords Go.Proofs.YthcikldhlohjbaaW.PrintLast Go.Proofs.YthcikldhlohjbaaW.PrintMore
attribute [local go_sem] max2_int min2_int max_two min_two max_three min_three max_four min_four   -- for this text's walks alone
set_option linter.unusedVariables false
set_option linter.unusedSimpArgs false

/-! ### tree_Limit: function 60 -/
def tree_Limit.j0 : Nat → List (S94) → Int → Int → Int → Bool → Option ((List (S94)) × Int)
  | 0, _, _, _, _, _ => none
  | k + 1, x0, x2, x8, x9, x26 => if x26 = true then (some (([] : List (S94)), 2)) else (if x9 = 0 then ((api_Account_96.f x0).bind fun t170 => (if 0 ≤ x8 then (if x8 < (t170.length : Int) then (some ((t170.set (x8 : Int).toNat (⟨(rd_T94 t170 x8).f0, (rd_T94 t170 x8).f1, x2⟩ : S94)), 0)) else (none)) else (none))) else (some (([] : List (S94)), x9)))
def tree_Limit.f (k : Nat) (l0 : List (S94)) (a1 : ByteArray) (a2 : Int) : Option ((List (S94)) × Int) := (tree_place.f l0 a1).bind fun bt168 => (if bt168.2 = 2 then (tree_Limit.j0 k l0 a2 bt168.1 bt168.2 true) else (if a2 < (-1) then (tree_Limit.j0 k l0 a2 bt168.1 bt168.2 true) else (tree_Limit.j0 k l0 a2 bt168.1 bt168.2 (decide (a2 > 1073741824)))))
theorem tree_Limit.mono_l : ∀ k, (∀ y0 y1 y2 y3 y4, LeO (tree_Limit.j0 k y0 y1 y2 y3 y4) (tree_Limit.j0 (k + 1) y0 y1 y2 y3 y4))
  | 0 => fun _ _ _ _ _ r h => by simp [tree_Limit.j0] at h
  | k + 1 => by
    have ih0 := tree_Limit.mono_l k
    · intro y0 y1 y2 y3 y4
      unfold tree_Limit.j0
      repeat' first
      | (with_reducible exact ih0 _ _ _ _ _)
      | (with_reducible exact LeO.refl _)
      | (with_reducible exact LeO.none _)
      | (with_reducible refine LeO.ite ?_ ?_)
      | (with_reducible refine LeO.bind ?_ (fun _ => ?_))
      | exact ih0 _ _ _ _ _
      | exact LeO.none _
      | refine LeO.ite ?_ ?_
      | refine LeO.bind ?_ (fun _ => ?_)
theorem tree_Limit.mono : ∀ a0 a1 a2 k, LeO (tree_Limit.f k a0 a1 a2) (tree_Limit.f (k + 1) a0 a1 a2) := by
  intro a0 a1 a2 k
  have ih0 := tree_Limit.mono_l k
  unfold tree_Limit.f
  repeat' first
      | (with_reducible exact ih0 _ _ _ _ _)
      | (with_reducible exact LeO.refl _)
      | (with_reducible exact LeO.none _)
      | (with_reducible refine LeO.ite ?_ ?_)
      | (with_reducible refine LeO.bind ?_ (fun _ => ?_))
      | exact ih0 _ _ _ _ _
      | exact LeO.none _
      | refine LeO.ite ?_ ?_
      | refine LeO.bind ?_ (fun _ => ?_)
set_option maxHeartbeats 8000000 in
set_option maxRecDepth 100000 in
theorem tree_Limit.calls (k : Nat) (A0 : Option Addr) (c0 : Nat) (l0 : List (S94)) (a1 : ByteArray) (a2 : Int) (r1 : List (S94)) (r2 : Int) (w : World) (hr0 : Kd.C k94 w A0 l0.length l0) (hc0 : l0.length ≤ c0) (h : tree_Limit.f k l0 a1 a2 = some (r1, r2)) :
    Calls Try.prog 60 #[.slice A0 l0.length c0, .string a1, .int .i64 a2] w fun e w' => ∃ v0_ : Value, e = .returned (.tuple #[v0_, .int .i64 r2]) ∧ Kd.R k94 94 w' w.heap.size (fun _ => True) v0_ r1 ∧ Below w.heap.size w w' := by
  have HR0 := Aside0.mk hr0
  have HC0 := Aside0.mk hc0
  clear hr0 hc0
  have HB := Aside0.mk (Below.refl w.heap.size w)
  have H : ((tree_place.f l0 a1).bind fun bt168 => (if bt168.2 = 2 then (tree_Limit.j0 k l0 a2 bt168.1 bt168.2 true) else (if a2 < (-1) then (tree_Limit.j0 k l0 a2 bt168.1 bt168.2 true) else (tree_Limit.j0 k l0 a2 bt168.1 bt168.2 (decide (a2 > 1073741824)))))) = some (r1, r2) := h
  clear h
  replace H := Option.bind_eq_some_iff.mp H
  obtain ⟨⟨t168, t169⟩, A40, H⟩ := H
  replace H : (if t169 = 2 then (tree_Limit.j0 k l0 a2 t168 t169 true) else (if a2 < (-1) then (tree_Limit.j0 k l0 a2 t168 t169 true) else (tree_Limit.j0 k l0 a2 t168 t169 (decide (a2 > 1073741824))))) = some (r1, r2) := H
  have A4 := Aside0.mk A40
  clear A40
  have HC5 := Aside0.mk H
  clear H
  go_enter Try.func60, Try.ntmps60
  go_upto_region 2 with (first | ((with_reducible refine gate_callee (f := 92) rfl ?_); refine goesL_ (some 14) rfl rfl Try.func92 (by kernel_rfl) rfl #[.slice A0 l0.length c0, .string a1] rfl (by (try simp only [List.map_toArray, List.map_cons, List.map_nil]); first | done | rfl | (simp only [List.length_drop, List.length_take]; rfl)) ?_; (with_reducible refine (tree_place.calls _ _ l0 a1 t168 t169 _ ?side1 ?side2 A4.out).mono ?_); (case side1 => repeat (first | exact HR0.out | (with_reducible refine Kd.C_alloc ?_ _) | (with_reducible refine Kd.C_drewN ?_ _) | (with_reducible refine Kd.C_drew ?_))); (case side2 => exact HC0.out); rintro e w6 ⟨rfl, hb⟩; refine ⟨_, rfl, ?_⟩; have n0_ := Aside0.mk (below_step (by repeat (first | (with_reducible first | exact HB.out | apply below_alloc | apply pw_below_drewN | apply below_drew1) | exact HB.out)) hb); clear HB; have HB := n0_; clear n0_; (try clear hb); (try clear hb2); (try clear hk); (try clear hi)))
  (try simp only [Act.put, List.setIfInBounds_toArray, List.set_cons_zero, List.set_cons_succ])
  go_cut [26] (fun v26 wc => ∃ (kq : Nat) (x26_4 : Bool), v26 = .bool x26_4 ∧ Aside0 (tree_Limit.j0 kq l0 a2 t168 t169 x26_4 = some (r1, r2)) ∧ Aside0 (kq ≤ k) ∧ Aside0 (Below w.heap.size w wc))
  case first =>
    have H := HC5.out
    clear HC5
    by_cases c7 : t169 = 2
    · rw [if_pos c7] at H
      have c7b0 : (t169 == 2) = true := beq_iff_eq.mpr c7
      have c7b1 : (t169 != 2) = false := bne_eq_false_iff_eq.mpr c7
      clear c7
      (first | rw [c7b0] | (simp only [i64_w, i32_w]; rw [c7b0]) | skip)
      have H' := Aside0.mk H
      clear H
      go_wp2
      go_meet
      case rel => exact ⟨_, (true), (by first | rfl | (simp; done) | (simp [*]; done)), H', ⟨by first | omega | exact Nat.le_refl _⟩, ⟨by repeat (first | (with_reducible first | exact HB.out | apply below_alloc | apply pw_below_drewN | apply below_drew1) | exact HB.out)⟩⟩
    · rw [if_neg c7] at H
      have c7b0 : (t169 == 2) = false := beq_eq_false_iff_ne.mpr c7
      have c7b1 : (t169 != 2) = true := bne_iff_ne.mpr c7
      (first | rw [c7b0] | (simp only [i64_w, i32_w]; rw [c7b0]) | skip)
      by_cases c8 : a2 < (-1)
      · rw [if_pos c8] at H
        have c8b0 : decide (a2 < (-1)) = true := decide_eq_true c8
        clear c8
        have H' := Aside0.mk H
        clear H
        go_wp2
        go_meet
        case rel => exact ⟨_, (true), (by first | rfl | (simp; done) | (simp [*]; done)), H', ⟨by first | omega | exact Nat.le_refl _⟩, ⟨by repeat (first | (with_reducible first | exact HB.out | apply below_alloc | apply pw_below_drewN | apply below_drew1) | exact HB.out)⟩⟩
      · rw [if_neg c8] at H
        have c8b0 : decide (a2 < (-1)) = false := decide_eq_false c8
        clear c8
        have H' := Aside0.mk H
        clear H
        go_wp2
        go_meet
        case rel => exact ⟨_, (decide (a2 > 1073741824)), (by first | rfl | (simp; done) | (simp [*]; done)), H', ⟨by first | omega | exact Nat.le_refl _⟩, ⟨by repeat (first | (with_reducible first | exact HB.out | apply below_alloc | apply pw_below_drewN | apply below_drew1) | exact HB.out)⟩⟩
  case rest =>
    clear HC5
    try clear p2
    try clear c6
    try clear c7
    try clear c7b0
    try clear c7b1
    try clear c8
    try clear c8b0
    obtain ⟨kq, x26_4, rfl, HA, HJ4, HB⟩ := hcut
    cases kq with
    | zero => exact absurd HA.out (by simp [tree_Limit.j0])
    | succ kj4 =>
      have H := HA.out
      clear HA
      simp only [tree_Limit.j0] at H
      by_cases c9 : x26_4 = true
      · subst c9
        have H1 : (some (([] : List (S94)), 2)) = some (r1, r2) := by rw [if_pos rfl] at H; exact H
        clear H
        have H := H1
        clear H1
        simp only [Option.some.injEq, Prod.mk.injEq] at H
        obtain ⟨rfl, rfl⟩ := H
        go_wp2
        go_ret2
        exact ⟨_, by first | rfl | (simp [errW_none, errW_some] <;> rfl) | (simp [*, errW_none, errW_some] <;> rfl), by first | exact Kd.R_nil _ _ _ _ _ | exact Kd.N_nil _ _ _ _ _ | exact Kd.V_nil _ _ _ _ _ | exact Kd.Q_nil _ _ _ _ _ | exact Kd.S_nil _ _ _ _ _, by repeat (first | (with_reducible first | exact HB.out | apply below_alloc | apply pw_below_drewN | apply below_drew1) | exact HB.out)⟩
      · replace c9 := Bool.eq_false_iff.mpr c9
        subst c9
        have H1 : (if t169 = 0 then ((api_Account_96.f l0).bind fun t170 => (if 0 ≤ t168 then (if t168 < (t170.length : Int) then (some ((t170.set (t168 : Int).toNat (⟨(rd_T94 t170 t168).f0, (rd_T94 t170 t168).f1, a2⟩ : S94)), 0)) else (none)) else (none))) else (some (([] : List (S94)), t169))) = some (r1, r2) := by rw [if_neg (show ¬ (false = true) by decide)] at H; exact H
        clear H
        have H := H1
        clear H1
        by_cases c10 : t169 = 0
        · rw [if_pos c10] at H
          have c10b0 : (t169 == 0) = true := beq_iff_eq.mpr c10
          have c10b1 : (t169 != 0) = false := bne_eq_false_iff_eq.mpr c10
          clear c10
          replace H := Option.bind_eq_some_iff.mp H
          obtain ⟨t170, A110, H⟩ := H
          replace H : (if 0 ≤ t168 then (if t168 < (t170.length : Int) then (some ((t170.set (t168 : Int).toNat (⟨(rd_T94 t170 t168).f0, (rd_T94 t170 t168).f1, a2⟩ : S94)), 0)) else (none)) else (none)) = some (r1, r2) := H
          have A11 := Aside0.mk A110
          clear A110
          by_cases c12 : 0 ≤ t168
          · rw [if_pos c12] at H
            have c12b0 : decide (0 ≤ t168) = true := decide_eq_true c12
            clear c12
            by_cases c13 : t168 < (t170.length : Int)
            · rw [if_pos c13] at H
              have c13b0 : decide (t168 < (t170.length : Int)) = true := decide_eq_true c13
              clear c13
              obtain ⟨y173, hy173⟩ : ∃ y_ : List (S94), y_ = (t170.set (t168 : Int).toNat (⟨(rd_T94 t170 t168).f0, (rd_T94 t170 t168).f1, a2⟩ : S94)) := ⟨_, rfl⟩
              replace H : (some (y173, 0)) = some (r1, r2) := by first | (rw [hy173]; with_reducible exact H) | (have H2_ := (Option.bind_some _ _).symm.trans H; rw [hy173]; with_reducible exact H2_) | (have H2_ := (Option.bind_some _ _).symm.trans H; with_reducible exact H2_) | with_reducible exact H | (rw [hy173]; exact H) | exact H
              have Ny173 := Aside0.mk hy173
              clear hy173
              simp only [Option.some.injEq, Prod.mk.injEq] at H
              obtain ⟨rfl, rfl⟩ := H
              go_wp2_with (first | ((with_reducible refine gate_callee (f := 96) rfl ?_); refine goesL_ (some 31) rfl rfl Try.func96 (by kernel_rfl) rfl #[.slice A0 l0.length c0] rfl (by (try simp only [List.map_toArray, List.map_cons, List.map_nil]); first | done | rfl | (simp only [List.length_drop, List.length_take]; rfl)) ?_; (with_reducible refine (api_Account_96.calls _ _ l0 t170 _ ?side1 ?side2 A11.out).mono ?_); (case side1 => repeat (first | exact (Kd.C_below HR0.out HB.out) | (with_reducible refine Kd.C_alloc ?_ _) | (with_reducible refine Kd.C_drewN ?_ _) | (with_reducible refine Kd.C_drew ?_))); (case side2 => exact HC0.out); rintro e w15 ⟨v171, rfl, ho0, hb⟩; refine ⟨_, rfl, ?_⟩; have n0_ := Aside0.mk (Kd.R_lower ho0 (below_size (by repeat (first | (with_reducible first | exact HB.out | apply below_alloc | apply pw_below_drewN | apply below_drew1) | exact HB.out)))); have n1_ := Aside0.mk (below_step (by repeat (first | (with_reducible first | exact HB.out | apply below_alloc | apply pw_below_drewN | apply below_drew1) | exact HB.out)) hb); clear HB; have HO172 := n0_; have HB := n1_; clear n0_ n1_; (try clear hb); (try clear hb2); (try clear hk); (try clear hi); (try clear ho0); have p14 : 0 ≤ (t168 : Int) := of_decide_eq_true (by first | (with_reducible assumption) | assumption); have q14 : (t168 : Int) < ((t170.length : Int) : Int) := of_decide_eq_true (by first | (with_reducible assumption) | assumption); obtain ⟨go14, co14, eo14, gb14, gl14, cl14, HG14⟩ := Kd.R_form HO172.out (by omega); (first | cases eo14 | (injection eo14 with ea_ en_ ec_; (first | subst ea_ | (injection ea_ with ea_; subst ea_)); subst ec_; clear en_)); have GB14 := Aside0.mk gb14; have GG14 := Aside0.mk HG14; clear gb14 gl14 HG14; obtain ⟨ce14, hcl14, hM14, hcc14, hfr14⟩ := Kd.R_elem HO172.out z94 (t168 : Int) p14 q14; obtain rfl := k94_openM hM14; have hx14_0 : w15.cell? ⟨go14, (t168 : Int).toNat * 3, none⟩ = some (.string ((rd_T94 t170 t168).f0)) := hcc14 0 _ rfl; have hx14_1 : w15.cell? ⟨go14, (t168 : Int).toNat * 3 + 1, none⟩ = some (.string ((rd_T94 t170 t168).f1)) := hcc14 1 _ rfl; have hx14_2 : w15.cell? ⟨go14, (t168 : Int).toNat * 3 + 2, none⟩ = some (.int .i64 ((rd_T94 t170 t168).f2)) := hcc14 2 _ rfl; have hf14_0 : w15.frozen? ⟨go14, (t168 : Int).toNat * 3, none⟩ = false := hfr14 0; have hf14_1 : w15.frozen? ⟨go14, (t168 : Int).toNat * 3 + 1, none⟩ = false := hfr14 1; have hf14_2 : w15.frozen? ⟨go14, (t168 : Int).toNat * 3 + 2, none⟩ = false := hfr14 2; clear hcl14 hcc14 hfr14 hM14; replace p14 := eq_true p14; replace q14 := eq_true q14; have HX16 := Aside0.mk (show Kd.R k94 94 w15 w.heap.size (fun _ => True) (.slice (some ⟨go14, 0, none⟩) t170.length co14) t170 from (by (with_reducible repeat (first | apply Kd.R_alloc | apply Kd.R_drewN | apply Kd.R_drew)); exact HO172.out)); obtain ⟨ce16, hcl16, hM16, hcc16, hfr16⟩ := Kd.R_elem HX16.out z94 (t168 : Int) (of_decide_eq_true (by first | (with_reducible assumption) | assumption)) (by have h_ : (t168 : Int) < ((t170.length : Int) : Int) := of_decide_eq_true (by first | (with_reducible assumption) | assumption); first | exact h_ | (have e_ := (Kd.R_reads' HO172.out).1; omega) | simpa using h_); obtain rfl := k94_openM hM16; have HP16 := Kd.R_seg HX16.out (t168 : Int) (of_decide_eq_true (by first | (with_reducible assumption) | assumption)) (by have h_ : (t168 : Int) < ((t170.length : Int) : Int) := of_decide_eq_true (by first | (with_reducible assumption) | assumption); first | exact h_ | (have e_ := (Kd.R_reads' HO172.out).1; omega) | simpa using h_) (seg := [.int .i64 a2]) (j := 2) hcl16 hcc16 (show 3 ≤ 3 from by decide) (x' := (⟨(rd_T94 t170 t168).f0, (rd_T94 t170 t168).f1, a2⟩ : S94)) (k94_mkM _ _ _ (⟨(rd_T94 t170 t168).f0, (rd_T94 t170 t168).f1, a2⟩ : S94) ) (fun _ hk => hk); have hx16_2 := hcc16 2 _ rfl; (try simp only [show (k94).sz = 3 from rfl, Nat.mul_one, Nat.add_zero] at hx16_2); have hf16_2 := hfr16 2; (try simp only [show (k94).sz = 3 from rfl, Nat.mul_one, Nat.add_zero] at hf16_2); clear hcl16 hcc16 hfr16 hM16) | ((with_reducible refine gate_store (t := 3) (p := 36) rfl ?_); refine store_event (t := 3) (p := 36) (v := ?vo_w17) (w1 := (w15.setCell ⟨go14, (t168 : Int).toNat * 3 + 2, none⟩ (.int .i64 a2))) ?hg ?ho ?hn ?hr ?_; (case ho => rfl); (case hg => rfl); (case hn => rfl); (case hr => first | (go_simp; done) | (go_simp; rfl)); intro w17 hw; have hg : w15.grownBy w17 (some go14) := (by rw [hw]; exact HP16.2); have hp_ : Kd.R k94 94 w17 w.heap.size (fun _ => True) (.slice (some ⟨go14, 0, none⟩) t170.length co14) y173 := (by rw [hw, Ny173.out]; exact HP16.1); clear HP16; have n0_ := Aside0.mk (hp_); have n1_ := Aside0.mk ((by rw [hw]; exact below_set (HB.out) GB14.out : Below w.heap.size w w17)); clear HO172; clear HB; have HO172 := n0_; have HB := n1_; clear n0_ n1_; clear hg hw hp_))
              go_ret2
              exact ⟨_, by first | rfl | (simp [errW_none, errW_some] <;> rfl) | (simp [*, errW_none, errW_some] <;> rfl), by (with_reducible repeat (first | apply Kd.R_alloc | apply Kd.R_drewN | apply Kd.R_drew)); exact HO172.out, by repeat (first | (with_reducible first | exact HB.out | apply below_alloc | apply pw_below_drewN | apply below_drew1) | exact HB.out)⟩
            · rw [if_neg c13] at H
              exact absurd H (by simp)
          · rw [if_neg c12] at H
            exact absurd H (by simp)
        · rw [if_neg c10] at H
          have c10b0 : (t169 == 0) = false := beq_eq_false_iff_ne.mpr c10
          have c10b1 : (t169 != 0) = true := bne_iff_ne.mpr c10
          simp only [Option.some.injEq, Prod.mk.injEq] at H
          obtain ⟨rfl, rfl⟩ := H
          go_wp2
          go_ret2
          exact ⟨_, by first | rfl | (simp [errW_none, errW_some] <;> rfl) | (simp [*, errW_none, errW_some] <;> rfl), by first | exact Kd.R_nil _ _ _ _ _ | exact Kd.N_nil _ _ _ _ _ | exact Kd.V_nil _ _ _ _ _ | exact Kd.Q_nil _ _ _ _ _ | exact Kd.S_nil _ _ _ _ _, by repeat (first | (with_reducible first | exact HB.out | apply below_alloc | apply pw_below_drewN | apply below_drew1) | exact HB.out)⟩

end Go.Proofs.Ythcikldhlohjbaa.PT
