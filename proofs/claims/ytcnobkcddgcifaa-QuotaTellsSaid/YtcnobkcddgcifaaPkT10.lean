/- Texts of this claim, laid together: PTx2, PTx25, PTx3, PTx27, QuotaS, QuotaT, Open, PTOpenQuotaTells. -/
import Derived.Deep.Slices
import Derived.ChangeArms
import Derived.SizedLaws
import Derived.Handed
import Derived.Test.YtcnobkcddgcifaaPkT0
import Derived.Test.YtcnobkcddgcifaaPkT1
import Derived.Test.YtcnobkcddgcifaaPkT2
import Derived.Test.YtcnobkcddgcifaaPkT3
import Derived.Test.YtcnobkcddgcifaaPkT4
import Derived.Test.YtcnobkcddgcifaaPkT5
import Derived.Test.YtcnobkcddgcifaaPkT6
import Derived.Test.YtcnobkcddgcifaaPkT7
import Derived.Test.YtcnobkcddgcifaaPkT8
import Derived.Test.YtcnobkcddgcifaaPkT9
-- printed by wprint.py (this session's program over the kit's print.py)
namespace Go.Proofs.Ytcnobkcddgcifaa.PT
open Go.RowKit Go.Proofs.YtcnobkcddgcifaaW.PrintWords Go.Proofs.YtcnobkcddgcifaaW.PrintLast Go.Proofs.YtcnobkcddgcifaaW.PrintMore
attribute [local go_sem] max2_int min2_int max_two min_two max_three min_three max_four min_four   -- for this text's walks alone
set_option linter.unusedVariables false
set_option linter.unusedSimpArgs false

theorem eqA59 (d : Nat) (w : World) (x0 y0 : ByteArray) (x1 y1 : Int) (x2 y2 : Int) (x3 y3 : Int) :
    (Op.equalIn (d + 2) 59 (.agg #[.string x0, .int .i64 x1, .int .i64 x2, .int .i64 x3]) (.agg #[.string y0, .int .i64 y1, .int .i64 y2, .int .i64 y3])).run Try.prog w = .ok (x0.toList == y0.toList && (x1 == y1 && (x2 == y2 && (x3 == y3)))) w := by
  refine eqA_of Try.underlying59 (by kernel_rfl) ?_
  refine eqf_cons (by rfl) (by go_simp; rfl) (by go_simp; rfl) (by go_simp) ?_
  refine eqf_cons (by rfl) (by go_simp; rfl) (by go_simp; rfl) (by go_simp) ?_
  refine eqf_cons (by rfl) (by go_simp; rfl) (by go_simp; rfl) (by go_simp) ?_
  exact eqf_last (by rfl) (by go_simp; rfl) (by go_simp; rfl) (by go_simp)
end Go.Proofs.Ytcnobkcddgcifaa.PT
-- printed by wprint.py (this session's program over the kit's print.py)
namespace Go.Proofs.Ytcnobkcddgcifaa.PT
open Go.RowKit Go.Proofs.YtcnobkcddgcifaaW.PrintWords Go.Proofs.YtcnobkcddgcifaaW.PrintLast Go.Proofs.YtcnobkcddgcifaaW.PrintMore
attribute [local go_sem] max2_int min2_int max_two min_two max_three min_three max_four min_four   -- for this text's walks alone
set_option linter.unusedVariables false
set_option linter.unusedSimpArgs false

attribute [local go_sem high] eqA59
/-! ### musterkit_SameQos: function 47 -/
def musterkit_SameQos.l0 : Nat → List (S59) → List (S59) → Int → Option (Bool)
  | 0, _, _, _ => none
  | k + 1, x0, x1, x5 => if x5 < (x0.length : Int) then (if 0 ≤ x5 then (if x5 < (x1.length : Int) then (if (!((((rd_T59 x0 x5).f0).toList) == (((rd_T59 x1 x5).f0).toList)) || (!(((rd_T59 x0 x5).f1) == ((rd_T59 x1 x5).f1)) || (!(((rd_T59 x0 x5).f2) == ((rd_T59 x1 x5).f2)) || (!(((rd_T59 x0 x5).f3) == ((rd_T59 x1 x5).f3)))))) = true then (some false) else (musterkit_SameQos.l0 k x0 x1 (wrap64 (x5 + 1)))) else (none)) else (none)) else (some true)
def musterkit_SameQos.f (k : Nat) (l0 : List (S59)) (l1 : List (S59)) : Option (Bool) := if (l0.length : Int) = (l1.length : Int) then (musterkit_SameQos.l0 k l0 l1 0) else (some false)
theorem musterkit_SameQos.mono_l : ∀ k, (∀ y0 y1 y2, LeO (musterkit_SameQos.l0 k y0 y1 y2) (musterkit_SameQos.l0 (k + 1) y0 y1 y2))
  | 0 => fun _ _ _ r h => by simp [musterkit_SameQos.l0] at h
  | k + 1 => by
    have ih0 := musterkit_SameQos.mono_l k
    · intro y0 y1 y2
      unfold musterkit_SameQos.l0
      repeat' first
      | (with_reducible exact ih0 _ _ _)
      | (with_reducible exact LeO.refl _)
      | (with_reducible exact LeO.none _)
      | (with_reducible refine LeO.ite ?_ ?_)
      | (with_reducible refine LeO.bind ?_ (fun _ => ?_))
      | exact ih0 _ _ _
      | exact LeO.none _
      | refine LeO.ite ?_ ?_
      | refine LeO.bind ?_ (fun _ => ?_)
theorem musterkit_SameQos.mono : ∀ a0 a1 k, LeO (musterkit_SameQos.f k a0 a1) (musterkit_SameQos.f (k + 1) a0 a1) := by
  intro a0 a1 k
  have ih0 := musterkit_SameQos.mono_l k
  unfold musterkit_SameQos.f
  repeat' first
      | (with_reducible exact ih0 _ _ _)
      | (with_reducible exact LeO.refl _)
      | (with_reducible exact LeO.none _)
      | (with_reducible refine LeO.ite ?_ ?_)
      | (with_reducible refine LeO.bind ?_ (fun _ => ?_))
      | exact ih0 _ _ _
      | exact LeO.none _
      | refine LeO.ite ?_ ?_
      | refine LeO.bind ?_ (fun _ => ?_)
set_option maxHeartbeats 8000000 in
set_option maxRecDepth 100000 in
theorem musterkit_SameQos.calls (k : Nat) (A0 : Option Addr) (c0 : Nat) (l0 : List (S59)) (A1 : Option Addr) (c1 : Nat) (l1 : List (S59)) (r : Bool) (w : World) (hr0 : Kd.C k59 w A0 l0.length l0) (hc0 : l0.length ≤ c0) (hr1 : Kd.C k59 w A1 l1.length l1) (hc1 : l1.length ≤ c1) (h : musterkit_SameQos.f k l0 l1 = some r) :
    Calls Try.prog 47 #[.slice A0 l0.length c0, .slice A1 l1.length c1] w fun e w' => e = .returned (.bool r) ∧ Drawn0 w w' := by
  have hu59 := Try.underlying59
  have HR0 := Aside0.mk hr0
  have HC0 := Aside0.mk hc0
  clear hr0 hc0
  have HR1 := Aside0.mk hr1
  have HC1 := Aside0.mk hc1
  clear hr1 hc1
  have H : (if (l0.length : Int) = (l1.length : Int) then (musterkit_SameQos.l0 k l0 l1 0) else (some false)) = some r := h
  clear h
  by_cases c3 : (l0.length : Int) = (l1.length : Int)
  · rw [if_pos c3] at H
    have c3b0 : ((l0.length : Int) == (l1.length : Int)) = true := beq_iff_eq.mpr c3
    have c3b1 : ((l0.length : Int) != (l1.length : Int)) = false := bne_eq_false_iff_eq.mpr c3
    have c3b2 : (l0.length == l1.length) = true := by first | simpa using c3 | (simp at c3 ⊢; omega)
    clear c3
    have H' := Aside0.mk H
    clear H
    go_enter Try.func47, Try.ntmps47
    go_wp2
    repeat (go_quiet (fail); try go_wp2)
    go_loopg [5] k (fun kq v5 w' => ∃ (x5_1 : Int), v5 = .int .i64 x5_1 ∧ Aside0 (musterkit_SameQos.l0 kq l0 l1 x5_1 = some r) ∧ Aside0 (kq ≤ k) ∧ Drawn0 w w')
    case atStart => exact ⟨(0), (by first | rfl | (simp; done) | (simp [*]; done)), H', ⟨Nat.le_refl _⟩, by repeat (first | exact Drawn0.refl _ | apply Drawn0.step)⟩
    case round =>
      clear H'
      try clear c1
      try clear p2
      try clear c3
      try clear c3b0
      try clear c3b1
      try clear c3b2
      obtain ⟨x5_1, rfl, HA, HK1, ⟨m1, rfl⟩⟩ := hrel
      cases gk with
      | zero => exact absurd HA.out (by simp [musterkit_SameQos.l0])
      | succ k1 =>
        have H := HA.out
        clear HA
        simp only [musterkit_SameQos.l0] at H
        by_cases c4 : x5_1 < (l0.length : Int)
        · rw [if_pos c4] at H
          have c4b0 : decide (x5_1 < (l0.length : Int)) = true := decide_eq_true c4
          clear c4
          by_cases c5 : 0 ≤ x5_1
          · rw [if_pos c5] at H
            have c5b0 : decide (0 ≤ x5_1) = true := decide_eq_true c5
            clear c5
            by_cases c6 : x5_1 < (l1.length : Int)
            · rw [if_pos c6] at H
              have c6b0 : decide (x5_1 < (l1.length : Int)) = true := decide_eq_true c6
              clear c6
              by_cases c7 : (!((((rd_T59 l0 x5_1).f0).toList) == (((rd_T59 l1 x5_1).f0).toList)) || (!(((rd_T59 l0 x5_1).f1) == ((rd_T59 l1 x5_1).f1)) || (!(((rd_T59 l0 x5_1).f2) == ((rd_T59 l1 x5_1).f2)) || (!(((rd_T59 l0 x5_1).f3) == ((rd_T59 l1 x5_1).f3)))))) = true
              · rw [if_pos c7] at H
                have c7b0 : (!((((rd_T59 l0 x5_1).f0).toList) == (((rd_T59 l1 x5_1).f0).toList)) || (!(((rd_T59 l0 x5_1).f1) == ((rd_T59 l1 x5_1).f1)) || (!(((rd_T59 l0 x5_1).f2) == ((rd_T59 l1 x5_1).f2)) || (!(((rd_T59 l0 x5_1).f3) == ((rd_T59 l1 x5_1).f3)))))) = true := c7
                clear c7
                obtain rfl := Option.some.inj H
                have p255 : 0 ≤ (x5_1 : Int) := of_decide_eq_true (by first | (with_reducible assumption) | assumption)
                have q255 : x5_1 < (l0.length : Int) := of_decide_eq_true (by first | (with_reducible assumption) | assumption)
                obtain ⟨ad255, e255, hx255_0, hx255_1, hx255_2, hx255_3⟩ := at_T59 HR0.out x5_1 p255 q255
                cases e255
                replace p255 := eq_true p255
                replace q255 := eq_true q255
                have p256 : 0 ≤ (x5_1 : Int) := of_decide_eq_true (by first | (with_reducible assumption) | assumption)
                have q256 : x5_1 < (l1.length : Int) := of_decide_eq_true (by first | (with_reducible assumption) | assumption)
                obtain ⟨ad256, e256, hx256_0, hx256_1, hx256_2, hx256_3⟩ := at_T59 HR1.out x5_1 p256 q256
                cases e256
                replace p256 := eq_true p256
                replace q256 := eq_true q256
                go_wp2
                repeat (go_quiet (fail); try go_wp2)
                go_ret
                exact ⟨by first | rfl | (simp; done) | (simp [*]; done), by repeat (first | exact Drawn0.refl _ | apply Drawn0.step)⟩
              · rw [if_neg c7] at H
                have c7b0 : (!((((rd_T59 l0 x5_1).f0).toList) == (((rd_T59 l1 x5_1).f0).toList)) || (!(((rd_T59 l0 x5_1).f1) == ((rd_T59 l1 x5_1).f1)) || (!(((rd_T59 l0 x5_1).f2) == ((rd_T59 l1 x5_1).f2)) || (!(((rd_T59 l0 x5_1).f3) == ((rd_T59 l1 x5_1).f3)))))) = false := by simpa using c7
                clear c7
                have H' := Aside0.mk H
                clear H
                have p255 : 0 ≤ (x5_1 : Int) := of_decide_eq_true (by first | (with_reducible assumption) | assumption)
                have q255 : x5_1 < (l0.length : Int) := of_decide_eq_true (by first | (with_reducible assumption) | assumption)
                obtain ⟨ad255, e255, hx255_0, hx255_1, hx255_2, hx255_3⟩ := at_T59 HR0.out x5_1 p255 q255
                cases e255
                replace p255 := eq_true p255
                replace q255 := eq_true q255
                have p256 : 0 ≤ (x5_1 : Int) := of_decide_eq_true (by first | (with_reducible assumption) | assumption)
                have q256 : x5_1 < (l1.length : Int) := of_decide_eq_true (by first | (with_reducible assumption) | assumption)
                obtain ⟨ad256, e256, hx256_0, hx256_1, hx256_2, hx256_3⟩ := at_T59 HR1.out x5_1 p256 q256
                cases e256
                replace p256 := eq_true p256
                replace q256 := eq_true q256
                go_wp2
                repeat (go_quiet (fail); try go_wp2)
                go_roundg k1
                case measure => have := HK1.out; omega
                case rel => exact ⟨(wrap64 (x5_1 + 1)), (by first | rfl | (simp; done) | (simp [*]; done)), H', ⟨by have := HK1.out; omega⟩, by repeat (first | exact Drawn0.refl _ | apply Drawn0.step)⟩
            · rw [if_neg c6] at H
              exact absurd H (by simp)
          · rw [if_neg c5] at H
            exact absurd H (by simp)
        · rw [if_neg c4] at H
          have c4b0 : decide (x5_1 < (l0.length : Int)) = false := decide_eq_false c4
          clear c4
          obtain rfl := Option.some.inj H
          go_wp2
          repeat (go_quiet (fail); try go_wp2)
          go_ret
          exact ⟨by first | rfl | (simp; done) | (simp [*]; done), by repeat (first | exact Drawn0.refl _ | apply Drawn0.step)⟩
  · rw [if_neg c3] at H
    have c3b0 : ((l0.length : Int) == (l1.length : Int)) = false := beq_eq_false_iff_ne.mpr c3
    have c3b1 : ((l0.length : Int) != (l1.length : Int)) = true := bne_iff_ne.mpr c3
    have c3b2 : (l0.length == l1.length) = false := by first | simpa using c3 | (simp at c3 ⊢; omega)
    obtain rfl := Option.some.inj H
    go_enter Try.func47, Try.ntmps47
    go_wp2
    repeat (go_quiet (fail); try go_wp2)
    go_ret
    exact ⟨by first | rfl | (simp; done) | (simp [*]; done), by repeat (first | exact Drawn0.refl _ | apply Drawn0.step)⟩

end Go.Proofs.Ytcnobkcddgcifaa.PT
-- printed by wprint.py (this session's program over the kit's print.py)
namespace Go.Proofs.Ytcnobkcddgcifaa.PT
open Go.RowKit Go.Proofs.YtcnobkcddgcifaaW.PrintWords Go.Proofs.YtcnobkcddgcifaaW.PrintLast Go.Proofs.YtcnobkcddgcifaaW.PrintMore
attribute [local go_sem] max2_int min2_int max_two min_two max_three min_three max_four min_four   -- for this text's walks alone
set_option linter.unusedVariables false
set_option linter.unusedSimpArgs false

theorem eqA112 (d : Nat) (w : World) (x0 y0 : Int) (x1 y1 : Int) :
    (Op.equalIn (d + 2) 112 (.agg #[.int .u8 x0, .int .i64 x1]) (.agg #[.int .u8 y0, .int .i64 y1])).run Try.prog w = .ok (x0 == y0 && (x1 == y1)) w := by
  refine eqA_of Try.underlying112 (by kernel_rfl) ?_
  refine eqf_cons (by rfl) (by go_simp; rfl) (by go_simp; rfl) (by go_simp) ?_
  exact eqf_last (by rfl) (by go_simp; rfl) (by go_simp; rfl) (by go_simp)
end Go.Proofs.Ytcnobkcddgcifaa.PT
-- printed by wprint.py (this session's program over the kit's print.py)
namespace Go.Proofs.Ytcnobkcddgcifaa.PT
open Go.RowKit Go.Proofs.YtcnobkcddgcifaaW.PrintWords Go.Proofs.YtcnobkcddgcifaaW.PrintLast Go.Proofs.YtcnobkcddgcifaaW.PrintMore
attribute [local go_sem] max2_int min2_int max_two min_two max_three min_three max_four min_four   -- for this text's walks alone
set_option linter.unusedVariables false
set_option linter.unusedSimpArgs false

attribute [local go_sem high] eqA112
/-! ### musterkit_SameDeps: function 73 -/
def musterkit_SameDeps.l0 : Nat → List (S112) → List (S112) → Int → Option (Bool)
  | 0, _, _, _ => none
  | k + 1, x0, x1, x5 => if x5 < (x0.length : Int) then (if 0 ≤ x5 then (if x5 < (x1.length : Int) then (if (!(((rd_T112 x0 x5).f0) == ((rd_T112 x1 x5).f0)) || (!(((rd_T112 x0 x5).f1) == ((rd_T112 x1 x5).f1)))) = true then (some false) else (musterkit_SameDeps.l0 k x0 x1 (wrap64 (x5 + 1)))) else (none)) else (none)) else (some true)
def musterkit_SameDeps.f (k : Nat) (l0 : List (S112)) (l1 : List (S112)) : Option (Bool) := if (l0.length : Int) = (l1.length : Int) then (musterkit_SameDeps.l0 k l0 l1 0) else (some false)
theorem musterkit_SameDeps.mono_l : ∀ k, (∀ y0 y1 y2, LeO (musterkit_SameDeps.l0 k y0 y1 y2) (musterkit_SameDeps.l0 (k + 1) y0 y1 y2))
  | 0 => fun _ _ _ r h => by simp [musterkit_SameDeps.l0] at h
  | k + 1 => by
    have ih0 := musterkit_SameDeps.mono_l k
    · intro y0 y1 y2
      unfold musterkit_SameDeps.l0
      repeat' first
      | (with_reducible exact ih0 _ _ _)
      | (with_reducible exact LeO.refl _)
      | (with_reducible exact LeO.none _)
      | (with_reducible refine LeO.ite ?_ ?_)
      | (with_reducible refine LeO.bind ?_ (fun _ => ?_))
      | exact ih0 _ _ _
      | exact LeO.none _
      | refine LeO.ite ?_ ?_
      | refine LeO.bind ?_ (fun _ => ?_)
theorem musterkit_SameDeps.mono : ∀ a0 a1 k, LeO (musterkit_SameDeps.f k a0 a1) (musterkit_SameDeps.f (k + 1) a0 a1) := by
  intro a0 a1 k
  have ih0 := musterkit_SameDeps.mono_l k
  unfold musterkit_SameDeps.f
  repeat' first
      | (with_reducible exact ih0 _ _ _)
      | (with_reducible exact LeO.refl _)
      | (with_reducible exact LeO.none _)
      | (with_reducible refine LeO.ite ?_ ?_)
      | (with_reducible refine LeO.bind ?_ (fun _ => ?_))
      | exact ih0 _ _ _
      | exact LeO.none _
      | refine LeO.ite ?_ ?_
      | refine LeO.bind ?_ (fun _ => ?_)
set_option maxHeartbeats 8000000 in
set_option maxRecDepth 100000 in
theorem musterkit_SameDeps.calls (k : Nat) (A0 : Option Addr) (c0 : Nat) (l0 : List (S112)) (A1 : Option Addr) (c1 : Nat) (l1 : List (S112)) (r : Bool) (w : World) (hr0 : Kd.C k112 w A0 l0.length l0) (hc0 : l0.length ≤ c0) (hr1 : Kd.C k112 w A1 l1.length l1) (hc1 : l1.length ≤ c1) (h : musterkit_SameDeps.f k l0 l1 = some r) :
    Calls Try.prog 73 #[.slice A0 l0.length c0, .slice A1 l1.length c1] w fun e w' => e = .returned (.bool r) ∧ Drawn0 w w' := by
  have hu112 := Try.underlying112
  have HR0 := Aside0.mk hr0
  have HC0 := Aside0.mk hc0
  clear hr0 hc0
  have HR1 := Aside0.mk hr1
  have HC1 := Aside0.mk hc1
  clear hr1 hc1
  have H : (if (l0.length : Int) = (l1.length : Int) then (musterkit_SameDeps.l0 k l0 l1 0) else (some false)) = some r := h
  clear h
  by_cases c3 : (l0.length : Int) = (l1.length : Int)
  · rw [if_pos c3] at H
    have c3b0 : ((l0.length : Int) == (l1.length : Int)) = true := beq_iff_eq.mpr c3
    have c3b1 : ((l0.length : Int) != (l1.length : Int)) = false := bne_eq_false_iff_eq.mpr c3
    have c3b2 : (l0.length == l1.length) = true := by first | simpa using c3 | (simp at c3 ⊢; omega)
    clear c3
    have H' := Aside0.mk H
    clear H
    go_enter Try.func73, Try.ntmps73
    go_wp2
    repeat (go_quiet (fail); try go_wp2)
    go_loopg [5] k (fun kq v5 w' => ∃ (x5_1 : Int), v5 = .int .i64 x5_1 ∧ Aside0 (musterkit_SameDeps.l0 kq l0 l1 x5_1 = some r) ∧ Aside0 (kq ≤ k) ∧ Drawn0 w w')
    case atStart => exact ⟨(0), (by first | rfl | (simp; done) | (simp [*]; done)), H', ⟨Nat.le_refl _⟩, by repeat (first | exact Drawn0.refl _ | apply Drawn0.step)⟩
    case round =>
      clear H'
      try clear c1
      try clear p2
      try clear c3
      try clear c3b0
      try clear c3b1
      try clear c3b2
      obtain ⟨x5_1, rfl, HA, HK1, ⟨m1, rfl⟩⟩ := hrel
      cases gk with
      | zero => exact absurd HA.out (by simp [musterkit_SameDeps.l0])
      | succ k1 =>
        have H := HA.out
        clear HA
        simp only [musterkit_SameDeps.l0] at H
        by_cases c4 : x5_1 < (l0.length : Int)
        · rw [if_pos c4] at H
          have c4b0 : decide (x5_1 < (l0.length : Int)) = true := decide_eq_true c4
          clear c4
          by_cases c5 : 0 ≤ x5_1
          · rw [if_pos c5] at H
            have c5b0 : decide (0 ≤ x5_1) = true := decide_eq_true c5
            clear c5
            by_cases c6 : x5_1 < (l1.length : Int)
            · rw [if_pos c6] at H
              have c6b0 : decide (x5_1 < (l1.length : Int)) = true := decide_eq_true c6
              clear c6
              by_cases c7 : (!(((rd_T112 l0 x5_1).f0) == ((rd_T112 l1 x5_1).f0)) || (!(((rd_T112 l0 x5_1).f1) == ((rd_T112 l1 x5_1).f1)))) = true
              · rw [if_pos c7] at H
                have c7b0 : (!(((rd_T112 l0 x5_1).f0) == ((rd_T112 l1 x5_1).f0)) || (!(((rd_T112 l0 x5_1).f1) == ((rd_T112 l1 x5_1).f1)))) = true := c7
                clear c7
                obtain rfl := Option.some.inj H
                have p263 : 0 ≤ (x5_1 : Int) := of_decide_eq_true (by first | (with_reducible assumption) | assumption)
                have q263 : x5_1 < (l0.length : Int) := of_decide_eq_true (by first | (with_reducible assumption) | assumption)
                obtain ⟨ad263, e263, hx263_0, hx263_1⟩ := at_T112 HR0.out x5_1 p263 q263
                cases e263
                replace p263 := eq_true p263
                replace q263 := eq_true q263
                have p264 : 0 ≤ (x5_1 : Int) := of_decide_eq_true (by first | (with_reducible assumption) | assumption)
                have q264 : x5_1 < (l1.length : Int) := of_decide_eq_true (by first | (with_reducible assumption) | assumption)
                obtain ⟨ad264, e264, hx264_0, hx264_1⟩ := at_T112 HR1.out x5_1 p264 q264
                cases e264
                replace p264 := eq_true p264
                replace q264 := eq_true q264
                go_wp2
                repeat (go_quiet (fail); try go_wp2)
                go_ret
                exact ⟨by first | rfl | (simp; done) | (simp [*]; done), by repeat (first | exact Drawn0.refl _ | apply Drawn0.step)⟩
              · rw [if_neg c7] at H
                have c7b0 : (!(((rd_T112 l0 x5_1).f0) == ((rd_T112 l1 x5_1).f0)) || (!(((rd_T112 l0 x5_1).f1) == ((rd_T112 l1 x5_1).f1)))) = false := by simpa using c7
                clear c7
                have H' := Aside0.mk H
                clear H
                have p263 : 0 ≤ (x5_1 : Int) := of_decide_eq_true (by first | (with_reducible assumption) | assumption)
                have q263 : x5_1 < (l0.length : Int) := of_decide_eq_true (by first | (with_reducible assumption) | assumption)
                obtain ⟨ad263, e263, hx263_0, hx263_1⟩ := at_T112 HR0.out x5_1 p263 q263
                cases e263
                replace p263 := eq_true p263
                replace q263 := eq_true q263
                have p264 : 0 ≤ (x5_1 : Int) := of_decide_eq_true (by first | (with_reducible assumption) | assumption)
                have q264 : x5_1 < (l1.length : Int) := of_decide_eq_true (by first | (with_reducible assumption) | assumption)
                obtain ⟨ad264, e264, hx264_0, hx264_1⟩ := at_T112 HR1.out x5_1 p264 q264
                cases e264
                replace p264 := eq_true p264
                replace q264 := eq_true q264
                go_wp2
                repeat (go_quiet (fail); try go_wp2)
                go_roundg k1
                case measure => have := HK1.out; omega
                case rel => exact ⟨(wrap64 (x5_1 + 1)), (by first | rfl | (simp; done) | (simp [*]; done)), H', ⟨by have := HK1.out; omega⟩, by repeat (first | exact Drawn0.refl _ | apply Drawn0.step)⟩
            · rw [if_neg c6] at H
              exact absurd H (by simp)
          · rw [if_neg c5] at H
            exact absurd H (by simp)
        · rw [if_neg c4] at H
          have c4b0 : decide (x5_1 < (l0.length : Int)) = false := decide_eq_false c4
          clear c4
          obtain rfl := Option.some.inj H
          go_wp2
          repeat (go_quiet (fail); try go_wp2)
          go_ret
          exact ⟨by first | rfl | (simp; done) | (simp [*]; done), by repeat (first | exact Drawn0.refl _ | apply Drawn0.step)⟩
  · rw [if_neg c3] at H
    have c3b0 : ((l0.length : Int) == (l1.length : Int)) = false := beq_eq_false_iff_ne.mpr c3
    have c3b1 : ((l0.length : Int) != (l1.length : Int)) = true := bne_iff_ne.mpr c3
    have c3b2 : (l0.length == l1.length) = false := by first | simpa using c3 | (simp at c3 ⊢; omega)
    obtain rfl := Option.some.inj H
    go_enter Try.func73, Try.ntmps73
    go_wp2
    repeat (go_quiet (fail); try go_wp2)
    go_ret
    exact ⟨by first | rfl | (simp; done) | (simp [*]; done), by repeat (first | exact Drawn0.refl _ | apply Drawn0.step)⟩

/-! ### musterkit_SameSpec: function 65 -/
end Go.Proofs.Ytcnobkcddgcifaa.PT
/- The kit's CopyConfig, SameConfig and SameJobs: what is like itself is told so. (A part of the print PT.) -/
set_option linter.unusedVariables false
set_option linter.unusedSimpArgs false
namespace Go.Proofs.Ytcnobkcddgcifaa.PT
open Go.RowKit Go.Proofs.YtcnobkcddgcifaaW.PrintWords Go.Proofs.YtcnobkcddgcifaaW.PrintLast Go.Proofs.YtcnobkcddgcifaaW.PrintMore Go.Proofs.Ytcnobkcddgcifaa.Gen Go.Proofs.Ytcnobkcddgcifaa.EvK
def sameJobsR.T6 : Bool × List (List Nat × List Nat) := (true, [([], []), ([], []), ([0, 1], [0, 1]), ([2], [2]), ([], []), ([], []), ([4, 5], [4, 5]), ([6], [6]), ([3, 7], [3, 7]), ([8], [8])])
def sameJobsR.B6 : List Nat := [0, 0, 3, 7, 0, 0, 48, 112, 255, 511]
theorem sameJobsR.tab6 : rtab .any (opsOf Try.f20 6) = sameJobsR.T6 := by kernel_rfl
theorem sameJobsR.bits6 : waitsOk sameJobsR.T6.2 sameJobsR.B6 = true := by kernel_rfl
def samePartsR.T6 : Bool × List (List Nat × List Nat) := (true, [([], []), ([], []), ([0, 1], [0, 1]), ([2], [2]), ([], []), ([], []), ([4, 5], [4, 5]), ([6], [6]), ([3, 7], [3, 7]), ([8], [8])])
def samePartsR.B6 : List Nat := [0, 0, 3, 7, 0, 0, 48, 112, 255, 511]
theorem samePartsR.tab6 : rtab .any (opsOf Try.f45 6) = samePartsR.T6 := by kernel_rfl
theorem samePartsR.bits6 : waitsOk samePartsR.T6.2 samePartsR.B6 = true := by kernel_rfl
theorem rdPart {l : List S87} {j : Nat} (h : j < l.length) : rd_T87 l j = l[j] := by unfold rd_T87; simp [List.getD, h]
theorem rdAcc {l : List S57} {j : Nat} (h : j < l.length) : rd_T57 l j = l[j] := by unfold rd_T57; simp [List.getD, h]
theorem copyInts_l0 (l : List Int) (hl : l.length < 17592186044416) : ∀ d j, l.length - j = d → j ≤ l.length → Ev (fun k => musterkit_CopyInts.l0 k l (l.take j) (j : Int)) l
  | 0, j, hd, hj => Ev.stp (fun k => by rw [musterkit_CopyInts.l0]) (Ev.neg (by omega) (Ev.one (List.take_of_length_le (by omega))))
  | d + 1, j, hd, hj => by
    refine Ev.stp (fun k => by rw [musterkit_CopyInts.l0]) (Ev.pos (by omega) (Ev.pos (by omega) (Ev.pos (by rw [List.length_take]; omega) ?_)))
    rw [rd_nat l j (by omega), wr1 (by omega), take_next l j (by omega)]
    exact copyInts_l0 l hl d (j + 1) (by omega) (by omega)
theorem copyTexts_l0 (l : List ByteArray) (hl : l.length < 8796093022208) : ∀ d j, l.length - j = d → j ≤ l.length → Ev (fun k => musterkit_CopyTexts.l0 k l (l.take j) (j : Int)) l
  | 0, j, hd, hj => Ev.stp (fun k => by rw [musterkit_CopyTexts.l0]) (Ev.neg (by omega) (Ev.one (List.take_of_length_le (by omega))))
  | d + 1, j, hd, hj => by
    refine Ev.stp (fun k => by rw [musterkit_CopyTexts.l0]) (Ev.pos (by omega) (Ev.pos (by omega) (Ev.pos (by rw [List.length_take]; omega) ?_)))
    rw [rdOf_nat _ l j (by omega), wr1 (by omega), take_next l j (by omega)]
    exact copyTexts_l0 l hl d (j + 1) (by omega) (by omega)
theorem copyPart (x : S87) (h : x.f4.length < 8796093022208) : Ev (fun k => musterkit_CopyPart.f k x.f0 x.f1 x.f2 x.f3 x.f4) (x.f0, x.f1, x.f2, x.f3, x.f4) :=
  Ev.bnd (copyTexts_l0 x.f4 h _ 0 rfl (Nat.zero_le _)) (Ev.one rfl)
theorem copyParts_l0 (l : List S87) (hl : l.length < 2199023255552) (hp : ∀ x ∈ l, x.f4.length < 8796093022208) : ∀ d j, l.length - j = d → j ≤ l.length → Ev (fun k => musterkit_CopyParts.l0 k l (l.take j) (j : Int)) l
  | 0, j, hd, hj => Ev.stp (fun k => by rw [musterkit_CopyParts.l0]) (Ev.neg (by omega) (Ev.one (List.take_of_length_le (by omega))))
  | d + 1, j, hd, hj => by
    refine Ev.stp (fun k => by rw [musterkit_CopyParts.l0]) (Ev.pos (by omega) (Ev.pos (by omega) ?_))
    rw [rdPart (l := l) (j := j) (by omega)]
    refine Ev.bnd (copyPart _ (hp _ (List.getElem_mem (by omega)))) (Ev.pos (by rw [List.length_take]; omega) ?_)
    rw [wr1 (by omega), show (⟨l[j].f0, l[j].f1, l[j].f2, l[j].f3, l[j].f4⟩ : S87) = l[j] from rfl, take_next l j (by omega)]
    exact copyParts_l0 l hl hp d (j + 1) (by omega) (by omega)
theorem copyAcc_l0 (l : List S57) (hl : l.length < 3518437208883) : ∀ d j, l.length - j = d → j ≤ l.length → Ev (fun k => musterkit_CopyAccounts.l0 k l (l.take j) (j : Int)) l
  | 0, j, hd, hj => Ev.stp (fun k => by rw [musterkit_CopyAccounts.l0]) (Ev.neg (by omega) (Ev.one (List.take_of_length_le (by omega))))
  | d + 1, j, hd, hj => by
    refine Ev.stp (fun k => by rw [musterkit_CopyAccounts.l0]) (Ev.pos (by omega) (Ev.pos (by omega) (Ev.pos (by rw [List.length_take]; omega) ?_)))
    rw [rdAcc (l := l) (j := j) (by omega), wr1 (by omega), show (⟨l[j].f0, l[j].f1, l[j].f2⟩ : S57) = l[j] from rfl, take_next l j (by omega)]
    exact copyAcc_l0 l hl d (j + 1) (by omega) (by omega)
theorem copyQos_l0 (l : List S59) (hl : l.length < 3518437208883) : ∀ d j, l.length - j = d → j ≤ l.length → Ev (fun k => musterkit_CopyQos.l0 k l (l.take j) (j : Int)) l
  | 0, j, hd, hj => Ev.stp (fun k => by rw [musterkit_CopyQos.l0]) (Ev.neg (by omega) (Ev.one (List.take_of_length_le (by omega))))
  | d + 1, j, hd, hj => by
    refine Ev.stp (fun k => by rw [musterkit_CopyQos.l0]) (Ev.pos (by omega) (Ev.pos (by omega) (Ev.pos (by rw [List.length_take]; omega) ?_)))
    rw [rdQ l j (by omega), wr1 (by omega), show (⟨l[j].f0, l[j].f1, l[j].f2, l[j].f3⟩ : S59) = l[j] from rfl, take_next l j (by omega)]
    exact copyQos_l0 l hl d (j + 1) (by omega) (by omega)
theorem sameInts_l0 (l : List Int) (hl : l.length < 9000000000000000000) : ∀ d j, l.length - j = d → j ≤ l.length → Ev (fun k => musterkit_SameInts.l0 k l l (j : Int)) true
  | 0, j, hd, hj => Ev.stp (fun k => by rw [musterkit_SameInts.l0]) (Ev.neg (by omega) (Ev.one rfl))
  | d + 1, j, hd, hj => by
    refine Ev.stp (fun k => by rw [musterkit_SameInts.l0]) (Ev.pos (by omega) (Ev.pos (by omega) (Ev.pos (by omega) (Ev.pos rfl ?_))))
    rw [wr1 (by omega)]
    exact sameInts_l0 l hl d (j + 1) (by omega) (by omega)
theorem sameTexts_l0 (l : List ByteArray) (hl : l.length < 9000000000000000000) : ∀ d j, l.length - j = d → j ≤ l.length → Ev (fun k => musterkit_SameTexts.l0 k l l (j : Int)) true
  | 0, j, hd, hj => Ev.stp (fun k => by rw [musterkit_SameTexts.l0]) (Ev.neg (by omega) (Ev.one rfl))
  | d + 1, j, hd, hj => by
    refine Ev.stp (fun k => by rw [musterkit_SameTexts.l0]) (Ev.pos (by omega) (Ev.pos (by omega) (Ev.pos (by omega) (Ev.pos rfl ?_))))
    rw [wr1 (by omega)]
    exact sameTexts_l0 l hl d (j + 1) (by omega) (by omega)
theorem sameAcc_l0 (l : List S57) (hl : l.length < 9000000000000000000) : ∀ d j, l.length - j = d → j ≤ l.length → Ev (fun k => musterkit_SameAccounts.l0 k l l (j : Int)) true
  | 0, j, hd, hj => Ev.stp (fun k => by rw [musterkit_SameAccounts.l0]) (Ev.neg (by omega) (Ev.one rfl))
  | d + 1, j, hd, hj => by
    refine Ev.stp (fun k => by rw [musterkit_SameAccounts.l0]) (Ev.pos (by omega) (Ev.pos (by omega) (Ev.pos (by omega) (Ev.neg (by simp) ?_))))
    rw [wr1 (by omega)]
    exact sameAcc_l0 l hl d (j + 1) (by omega) (by omega)
theorem sameQos_l0 (l : List S59) (hl : l.length < 9000000000000000000) : ∀ d j, l.length - j = d → j ≤ l.length → Ev (fun k => musterkit_SameQos.l0 k l l (j : Int)) true
  | 0, j, hd, hj => Ev.stp (fun k => by rw [musterkit_SameQos.l0]) (Ev.neg (by omega) (Ev.one rfl))
  | d + 1, j, hd, hj => by
    refine Ev.stp (fun k => by rw [musterkit_SameQos.l0]) (Ev.pos (by omega) (Ev.pos (by omega) (Ev.pos (by omega) (Ev.neg (by simp) ?_))))
    rw [wr1 (by omega)]
    exact sameQos_l0 l hl d (j + 1) (by omega) (by omega)
theorem sameDeps_l0 (l : List S112) (hl : l.length < 9000000000000000000) : ∀ d j, l.length - j = d → j ≤ l.length → Ev (fun k => musterkit_SameDeps.l0 k l l (j : Int)) true
  | 0, j, hd, hj => Ev.stp (fun k => by rw [musterkit_SameDeps.l0]) (Ev.neg (by omega) (Ev.one rfl))
  | d + 1, j, hd, hj => by
    refine Ev.stp (fun k => by rw [musterkit_SameDeps.l0]) (Ev.pos (by omega) (Ev.pos (by omega) (Ev.pos (by omega) (Ev.neg (by simp) ?_))))
    rw [wr1 (by omega)]
    exact sameDeps_l0 l hl d (j + 1) (by omega) (by omega)
/-- A configuration whose lists can be copied. -/
structure Mild (l0 : List Int) (l1 : List S87) (ac : List S57) (q : List S59) : Prop where
  i : l0.length < 17592186044416
  p : l1.length < 2199023255552
  t : ∀ x ∈ l1, x.f4.length < 8796093022208
  a : ac.length < 3518437208883
  q : q.length < 3518437208883
theorem copyCfg_calls {l0 : List Int} {l1 : List S87} {ac : List S57} {q : List S59} (M : Mild l0 l1 ac q) (A0 : Option Addr) (c0 : Nat) (A1 : Option Addr) (c1 : Nat) (A2 : Option Addr) (c2 : Nat) (A3 : Option Addr) (c3 : Nat) (pl : Int) (w : World)
    (h0 : Kd.C (Kd.int .i64) w A0 l0.length l0) (h1 : l0.length ≤ c0) (h2 : Kd.C k87 w A1 l1.length l1) (h3 : l1.length ≤ c1) (h4 : Kd.C k57 w A2 ac.length ac) (h5 : ac.length ≤ c2) (h6 : Kd.C k59 w A3 q.length q) (h7 : q.length ≤ c3) :
    Calls Try.prog 9 #[.agg (cfgV A0 l0.length c0 A1 l1.length c1 A2 ac.length c2 A3 q.length c3 pl)] w fun e w' => ∃ B0 d0 B1 d1 B2 d2 B3 d3, e = .returned (.agg (cfgV B0 l0.length d0 B1 l1.length d1 B2 ac.length d2 B3 q.length d3 pl)) ∧ Kd.C (Kd.int .i64) w' B0 l0.length l0 ∧ l0.length ≤ d0 ∧ Kd.C k87 w' B1 l1.length l1 ∧ l1.length ≤ d1 ∧ Kd.C k57 w' B2 ac.length ac ∧ ac.length ≤ d2 ∧ Kd.C k59 w' B3 q.length q ∧ q.length ≤ d3 ∧ Below w.heap.size w w' := by
  obtain ⟨k, hk⟩ := Ev.the (f := fun k => musterkit_CopyConfig.f k l0 l1 ac q pl) (r := (l0, l1, ac, q, pl)) (Ev.bnd (copyInts_l0 l0 M.i _ 0 rfl (Nat.zero_le _)) (Ev.bnd (copyParts_l0 l1 M.p M.t _ 0 rfl (Nat.zero_le _)) (Ev.bnd (copyAcc_l0 ac M.a _ 0 rfl (Nat.zero_le _)) (Ev.bnd (copyQos_l0 q M.q _ 0 rfl (Nat.zero_le _)) (Ev.one rfl)))))
  refine (musterkit_CopyConfig.calls k A0 c0 l0 A1 c1 l1 A2 c2 ac A3 c3 q pl _ _ _ _ _ w h0 h1 h2 h3 h4 h5 h6 h7 hk).mono ?_
  rintro e w' ⟨v0, v1, v2, v3, rfl, r0, r1, r2, r3, hb⟩
  obtain ⟨B0, d0, rfl, l0', k0⟩ := Kd.R_reads r0
  obtain ⟨B1, d1, rfl, l1', k1⟩ := Kd.R_reads (Kd.S_R r1)
  obtain ⟨B2, d2, rfl, l2', k2⟩ := Kd.R_reads r2
  obtain ⟨B3, d3, rfl, l3', k3⟩ := Kd.R_reads r3
  exact ⟨B0, d0, B1, d1, B2, d2, B3, d3, rfl, k0, l0', k1, l1', k2, l2', k3, l3', hb⟩
set_option maxRecDepth 100000 in
set_option maxHeartbeats 8000000 in
theorem sameSpecT (x : S32) (A : Option Addr) (c : Nat) (B : Option Addr) (d n : Nat) (hn : n = x.f7.length) (w : World) (hA : Kd.C k112 w A x.f7.length x.f7) (hc : x.f7.length ≤ c) (hB : Kd.C k112 w B x.f7.length x.f7) (hd : x.f7.length ≤ d) (hl : x.f7.length < 9000000000000000000) :
    Calls Try.prog 65 #[.agg #[.string x.f0, .string x.f1, .string x.f2, .string x.f3, .int .i64 x.f4, .int .i64 x.f5, .int .i64 x.f6, .slice A n c], .agg #[.string x.f0, .string x.f1, .string x.f2, .string x.f3, .int .i64 x.f4, .int .i64 x.f5, .int .i64 x.f6, .slice B n d]] w fun e w' => e = .returned (.bool true) ∧ Below w.heap.size w w' := by
  have HD := Lib.hid (fun W (hb : Below w.heap.size w W) => show Calls Try.prog 73 #[.slice A n c, .slice B n d] W fun e w' => e = .returned (.bool true) ∧ Below W.heap.size W w' by
    rw [hn]
    obtain ⟨k, hk⟩ := Ev.the (f := fun k => musterkit_SameDeps.f k x.f7 x.f7) (r := true) (Ev.pos rfl (sameDeps_l0 x.f7 hl _ 0 rfl (Nat.zero_le _)))
    exact (musterkit_SameDeps.calls k A c x.f7 B d x.f7 true W (Kd.C_below hA hb) hc (Kd.C_below hB hb) hd hk).mono fun e w' q => ⟨q.1, q.2.below⟩)
  clear hA hc hB hd hl hn
  have HG := Lib.hid (blk_alloc (heap_alloc_new w (.cells #[.string x.f0, .string x.f1, .string x.f2, .string x.f3, .int .i64 x.f4, .int .i64 x.f5, .int .i64 x.f6, .slice A n c] 32)) (.cells #[.string x.f0, .string x.f1, .string x.f2, .string x.f3, .int .i64 x.f4, .int .i64 x.f5, .int .i64 x.f6, .slice B n d] 32))
  have HH := Lib.hid (heap_alloc_new (w.alloc (.cells #[.string x.f0, .string x.f1, .string x.f2, .string x.f3, .int .i64 x.f4, .int .i64 x.f5, .int .i64 x.f6, .slice A n c] 32)) (.cells #[.string x.f0, .string x.f1, .string x.f2, .string x.f3, .int .i64 x.f4, .int .i64 x.f5, .int .i64 x.f6, .slice B n d] 32))
  have HB := Lib.hid (below_alloc (below_alloc (Below.refl w.heap.size w) (.cells #[.string x.f0, .string x.f1, .string x.f2, .string x.f3, .int .i64 x.f4, .int .i64 x.f5, .int .i64 x.f6, .slice A n c] 32)) (.cells #[.string x.f0, .string x.f1, .string x.f2, .string x.f3, .int .i64 x.f4, .int .i64 x.f5, .int .i64 x.f6, .slice B n d] 32))
  have es : (w.alloc (.cells #[.string x.f0, .string x.f1, .string x.f2, .string x.f3, .int .i64 x.f4, .int .i64 x.f5, .int .i64 x.f6, .slice A n c] 32)).heap.size = w.heap.size + 1 := by unfold World.alloc; simp
  rw [es] at HH
  clear es
  go_enter Try.func65, Try.ntmps65
  go_upto_region 1 with (fail)
  generalize World.alloc _ _ = W at HG HH HB ⊢
  obtain ⟨g, hg⟩ : ∃ g, g = w.heap.size := ⟨_, rfl⟩
  rw [← hg] at HG HH ⊢
  clear hg
  have p0 : W.cell? ⟨g, 0, none⟩ = some (.string x.f0) := (blk_cell HG.out 0).trans rfl
  have p1 : W.cell? ⟨g, 1, none⟩ = some (.string x.f1) := (blk_cell HG.out 1).trans rfl
  have p2 : W.cell? ⟨g, 2, none⟩ = some (.string x.f2) := (blk_cell HG.out 2).trans rfl
  have p3 : W.cell? ⟨g, 3, none⟩ = some (.string x.f3) := (blk_cell HG.out 3).trans rfl
  have p4 : W.cell? ⟨g, 4, none⟩ = some (.int .i64 x.f4) := (blk_cell HG.out 4).trans rfl
  have p5 : W.cell? ⟨g, 5, none⟩ = some (.int .i64 x.f5) := (blk_cell HG.out 5).trans rfl
  have p6 : W.cell? ⟨g, 6, none⟩ = some (.int .i64 x.f6) := (blk_cell HG.out 6).trans rfl
  have p7 : W.cell? ⟨g, 7, none⟩ = some (.slice A n c) := (blk_cell HG.out 7).trans rfl
  have q0 : W.cell? ⟨g + 1, 0, none⟩ = some (.string x.f0) := (blk_cell HH.out 0).trans rfl
  have q1 : W.cell? ⟨g + 1, 1, none⟩ = some (.string x.f1) := (blk_cell HH.out 1).trans rfl
  have q2 : W.cell? ⟨g + 1, 2, none⟩ = some (.string x.f2) := (blk_cell HH.out 2).trans rfl
  have q3 : W.cell? ⟨g + 1, 3, none⟩ = some (.string x.f3) := (blk_cell HH.out 3).trans rfl
  have q4 : W.cell? ⟨g + 1, 4, none⟩ = some (.int .i64 x.f4) := (blk_cell HH.out 4).trans rfl
  have q5 : W.cell? ⟨g + 1, 5, none⟩ = some (.int .i64 x.f5) := (blk_cell HH.out 5).trans rfl
  have q6 : W.cell? ⟨g + 1, 6, none⟩ = some (.int .i64 x.f6) := (blk_cell HH.out 6).trans rfl
  have q7 : W.cell? ⟨g + 1, 7, none⟩ = some (.slice B n d) := (blk_cell HH.out 7).trans rfl
  clear HG HH
  go_wp2_with fail
  refine (HD.out W HB.out).mono ?_
  rintro e w1 ⟨rfl, hb⟩
  have HB1 := Lib.hid (below_then HB.out HB.out.size hb)
  clear hb p0 p1 p2 p3 p4 p5 p6 p7 q0 q1 q2 q3 q4 q5 q6 q7
  go_wp2
  go_ret
  exact ⟨rfl, HB1.out⟩
set_option maxRecDepth 100000 in
set_option maxHeartbeats 8000000 in
theorem samePartT (x : S87) (A : Option Addr) (c : Nat) (B : Option Addr) (d n : Nat) (hn : n = x.f4.length) (w : World) (hA : Kd.C Kd.string w A x.f4.length x.f4) (hc : x.f4.length ≤ c) (hB : Kd.C Kd.string w B x.f4.length x.f4) (hd : x.f4.length ≤ d) (hl : x.f4.length < 9000000000000000000) :
    Calls Try.prog 64 #[.agg #[.string x.f0, .int .u32 x.f1, .int .i64 x.f2, .int .i64 x.f3, .slice A n c], .agg #[.string x.f0, .int .u32 x.f1, .int .i64 x.f2, .int .i64 x.f3, .slice B n d]] w fun e w' => e = .returned (.bool true) ∧ Below w.heap.size w w' := by
  have HD := Lib.hid (fun W (hb : Below w.heap.size w W) => show Calls Try.prog 72 #[.slice A n c, .slice B n d] W fun e w' => e = .returned (.bool true) ∧ Below W.heap.size W w' by
    rw [hn]
    obtain ⟨k, hk⟩ := Ev.the (f := fun k => musterkit_SameTexts.f k x.f4 x.f4) (r := true) (Ev.pos rfl (sameTexts_l0 x.f4 hl _ 0 rfl (Nat.zero_le _)))
    exact (musterkit_SameTexts.calls k A c x.f4 B d x.f4 true W (Kd.C_below hA hb) hc (Kd.C_below hB hb) hd hk).mono fun e w' q => ⟨q.1, q.2.below⟩)
  clear hA hc hB hd hl hn
  have HG := Lib.hid (blk_alloc (heap_alloc_new w (.cells #[.string x.f0, .int .u32 x.f1, .int .i64 x.f2, .int .i64 x.f3, .slice A n c] 87)) (.cells #[.string x.f0, .int .u32 x.f1, .int .i64 x.f2, .int .i64 x.f3, .slice B n d] 87))
  have HH := Lib.hid (heap_alloc_new (w.alloc (.cells #[.string x.f0, .int .u32 x.f1, .int .i64 x.f2, .int .i64 x.f3, .slice A n c] 87)) (.cells #[.string x.f0, .int .u32 x.f1, .int .i64 x.f2, .int .i64 x.f3, .slice B n d] 87))
  have HB := Lib.hid (below_alloc (below_alloc (Below.refl w.heap.size w) (.cells #[.string x.f0, .int .u32 x.f1, .int .i64 x.f2, .int .i64 x.f3, .slice A n c] 87)) (.cells #[.string x.f0, .int .u32 x.f1, .int .i64 x.f2, .int .i64 x.f3, .slice B n d] 87))
  have es : (w.alloc (.cells #[.string x.f0, .int .u32 x.f1, .int .i64 x.f2, .int .i64 x.f3, .slice A n c] 87)).heap.size = w.heap.size + 1 := by unfold World.alloc; simp
  rw [es] at HH
  clear es
  go_enter Try.func64, Try.ntmps64
  go_upto_region 1 with (fail)
  generalize World.alloc _ _ = W at HG HH HB ⊢
  obtain ⟨g, hg⟩ : ∃ g, g = w.heap.size := ⟨_, rfl⟩
  rw [← hg] at HG HH ⊢
  clear hg
  have p0 : W.cell? ⟨g, 0, none⟩ = some (.string x.f0) := (blk_cell HG.out 0).trans rfl
  have p1 : W.cell? ⟨g, 1, none⟩ = some (.int .u32 x.f1) := (blk_cell HG.out 1).trans rfl
  have p2 : W.cell? ⟨g, 2, none⟩ = some (.int .i64 x.f2) := (blk_cell HG.out 2).trans rfl
  have p3 : W.cell? ⟨g, 3, none⟩ = some (.int .i64 x.f3) := (blk_cell HG.out 3).trans rfl
  have p4 : W.cell? ⟨g, 4, none⟩ = some (.slice A n c) := (blk_cell HG.out 4).trans rfl
  have q0 : W.cell? ⟨g + 1, 0, none⟩ = some (.string x.f0) := (blk_cell HH.out 0).trans rfl
  have q1 : W.cell? ⟨g + 1, 1, none⟩ = some (.int .u32 x.f1) := (blk_cell HH.out 1).trans rfl
  have q2 : W.cell? ⟨g + 1, 2, none⟩ = some (.int .i64 x.f2) := (blk_cell HH.out 2).trans rfl
  have q3 : W.cell? ⟨g + 1, 3, none⟩ = some (.int .i64 x.f3) := (blk_cell HH.out 3).trans rfl
  have q4 : W.cell? ⟨g + 1, 4, none⟩ = some (.slice B n d) := (blk_cell HH.out 4).trans rfl
  clear HG HH
  go_wp2_with fail
  refine (HD.out W HB.out).mono ?_
  rintro e w1 ⟨rfl, hb⟩
  have HB1 := Lib.hid (below_then HB.out HB.out.size hb)
  clear hb p0 p1 p2 p3 p4 q0 q1 q2 q3 q4
  go_wp2
  go_ret
  exact ⟨rfl, HB1.out⟩
set_option maxRecDepth 100000 in
set_option maxHeartbeats 8000000 in
theorem sameJobT (x : S53) (A : Option Addr) (c : Nat) (B : Option Addr) (d n : Nat) (hn : n = x.f3.f7.length) (w : World) (hA : Kd.C k112 w A x.f3.f7.length x.f3.f7) (hc : x.f3.f7.length ≤ c) (hB : Kd.C k112 w B x.f3.f7.length x.f3.f7) (hd : x.f3.f7.length ≤ d) (hl : x.f3.f7.length < 9000000000000000000) :
    Calls Try.prog 48 #[.agg #[.int .i64 x.f0, .int .i64 x.f1, .int .i64 x.f2, .string x.f3.f0, .string x.f3.f1, .string x.f3.f2, .string x.f3.f3, .int .i64 x.f3.f4, .int .i64 x.f3.f5, .int .i64 x.f3.f6, .slice A n c, .int .u8 x.f4, .int .i64 x.f5, .int .i64 x.f6, .int .i64 x.f7, .int .u32 x.f8, .int .i64 x.f9], .agg #[.int .i64 x.f0, .int .i64 x.f1, .int .i64 x.f2, .string x.f3.f0, .string x.f3.f1, .string x.f3.f2, .string x.f3.f3, .int .i64 x.f3.f4, .int .i64 x.f3.f5, .int .i64 x.f3.f6, .slice B n d, .int .u8 x.f4, .int .i64 x.f5, .int .i64 x.f6, .int .i64 x.f7, .int .u32 x.f8, .int .i64 x.f9]] w fun e w' => e = .returned (.bool true) ∧ Below w.heap.size w w' := by
  have HD := Lib.hid (fun W (hb : Below w.heap.size w W) => sameSpecT x.f3 A c B d n hn W (Kd.C_below hA hb) hc (Kd.C_below hB hb) hd hl)
  have HN := Lib.hid hn
  clear hA hc hB hd hl hn
  have HG := Lib.hid (blk_alloc (heap_alloc_new w (.cells #[.int .i64 x.f0, .int .i64 x.f1, .int .i64 x.f2, .string x.f3.f0, .string x.f3.f1, .string x.f3.f2, .string x.f3.f3, .int .i64 x.f3.f4, .int .i64 x.f3.f5, .int .i64 x.f3.f6, .slice A n c, .int .u8 x.f4, .int .i64 x.f5, .int .i64 x.f6, .int .i64 x.f7, .int .u32 x.f8, .int .i64 x.f9] 53)) (.cells #[.int .i64 x.f0, .int .i64 x.f1, .int .i64 x.f2, .string x.f3.f0, .string x.f3.f1, .string x.f3.f2, .string x.f3.f3, .int .i64 x.f3.f4, .int .i64 x.f3.f5, .int .i64 x.f3.f6, .slice B n d, .int .u8 x.f4, .int .i64 x.f5, .int .i64 x.f6, .int .i64 x.f7, .int .u32 x.f8, .int .i64 x.f9] 53))
  have HH := Lib.hid (heap_alloc_new (w.alloc (.cells #[.int .i64 x.f0, .int .i64 x.f1, .int .i64 x.f2, .string x.f3.f0, .string x.f3.f1, .string x.f3.f2, .string x.f3.f3, .int .i64 x.f3.f4, .int .i64 x.f3.f5, .int .i64 x.f3.f6, .slice A n c, .int .u8 x.f4, .int .i64 x.f5, .int .i64 x.f6, .int .i64 x.f7, .int .u32 x.f8, .int .i64 x.f9] 53)) (.cells #[.int .i64 x.f0, .int .i64 x.f1, .int .i64 x.f2, .string x.f3.f0, .string x.f3.f1, .string x.f3.f2, .string x.f3.f3, .int .i64 x.f3.f4, .int .i64 x.f3.f5, .int .i64 x.f3.f6, .slice B n d, .int .u8 x.f4, .int .i64 x.f5, .int .i64 x.f6, .int .i64 x.f7, .int .u32 x.f8, .int .i64 x.f9] 53))
  have HB := Lib.hid (below_alloc (below_alloc (Below.refl w.heap.size w) (.cells #[.int .i64 x.f0, .int .i64 x.f1, .int .i64 x.f2, .string x.f3.f0, .string x.f3.f1, .string x.f3.f2, .string x.f3.f3, .int .i64 x.f3.f4, .int .i64 x.f3.f5, .int .i64 x.f3.f6, .slice A n c, .int .u8 x.f4, .int .i64 x.f5, .int .i64 x.f6, .int .i64 x.f7, .int .u32 x.f8, .int .i64 x.f9] 53)) (.cells #[.int .i64 x.f0, .int .i64 x.f1, .int .i64 x.f2, .string x.f3.f0, .string x.f3.f1, .string x.f3.f2, .string x.f3.f3, .int .i64 x.f3.f4, .int .i64 x.f3.f5, .int .i64 x.f3.f6, .slice B n d, .int .u8 x.f4, .int .i64 x.f5, .int .i64 x.f6, .int .i64 x.f7, .int .u32 x.f8, .int .i64 x.f9] 53))
  have es : (w.alloc (.cells #[.int .i64 x.f0, .int .i64 x.f1, .int .i64 x.f2, .string x.f3.f0, .string x.f3.f1, .string x.f3.f2, .string x.f3.f3, .int .i64 x.f3.f4, .int .i64 x.f3.f5, .int .i64 x.f3.f6, .slice A n c, .int .u8 x.f4, .int .i64 x.f5, .int .i64 x.f6, .int .i64 x.f7, .int .u32 x.f8, .int .i64 x.f9] 53)).heap.size = w.heap.size + 1 := by unfold World.alloc; simp
  rw [es] at HH
  clear es
  go_enter Try.func48, Try.ntmps48
  go_upto_region 1 with (fail)
  generalize World.alloc _ _ = W at HG HH HB ⊢
  obtain ⟨g, hg⟩ : ∃ g, g = w.heap.size := ⟨_, rfl⟩
  rw [← hg] at HG HH ⊢
  clear hg
  have p0 : W.cell? ⟨g, 0, none⟩ = some (.int .i64 x.f0) := (blk_cell HG.out 0).trans rfl
  have p1 : W.cell? ⟨g, 1, none⟩ = some (.int .i64 x.f1) := (blk_cell HG.out 1).trans rfl
  have p2 : W.cell? ⟨g, 2, none⟩ = some (.int .i64 x.f2) := (blk_cell HG.out 2).trans rfl
  have p3 : W.cell? ⟨g, 3, none⟩ = some (.string x.f3.f0) := (blk_cell HG.out 3).trans rfl
  have p4 : W.cell? ⟨g, 4, none⟩ = some (.string x.f3.f1) := (blk_cell HG.out 4).trans rfl
  have p5 : W.cell? ⟨g, 5, none⟩ = some (.string x.f3.f2) := (blk_cell HG.out 5).trans rfl
  have p6 : W.cell? ⟨g, 6, none⟩ = some (.string x.f3.f3) := (blk_cell HG.out 6).trans rfl
  have p7 : W.cell? ⟨g, 7, none⟩ = some (.int .i64 x.f3.f4) := (blk_cell HG.out 7).trans rfl
  have p8 : W.cell? ⟨g, 8, none⟩ = some (.int .i64 x.f3.f5) := (blk_cell HG.out 8).trans rfl
  have p9 : W.cell? ⟨g, 9, none⟩ = some (.int .i64 x.f3.f6) := (blk_cell HG.out 9).trans rfl
  have p10 : W.cell? ⟨g, 10, none⟩ = some (.slice A n c) := (blk_cell HG.out 10).trans rfl
  have p11 : W.cell? ⟨g, 11, none⟩ = some (.int .u8 x.f4) := (blk_cell HG.out 11).trans rfl
  have p12 : W.cell? ⟨g, 12, none⟩ = some (.int .i64 x.f5) := (blk_cell HG.out 12).trans rfl
  have p13 : W.cell? ⟨g, 13, none⟩ = some (.int .i64 x.f6) := (blk_cell HG.out 13).trans rfl
  have p14 : W.cell? ⟨g, 14, none⟩ = some (.int .i64 x.f7) := (blk_cell HG.out 14).trans rfl
  have p15 : W.cell? ⟨g, 15, none⟩ = some (.int .u32 x.f8) := (blk_cell HG.out 15).trans rfl
  have p16 : W.cell? ⟨g, 16, none⟩ = some (.int .i64 x.f9) := (blk_cell HG.out 16).trans rfl
  have q0 : W.cell? ⟨g + 1, 0, none⟩ = some (.int .i64 x.f0) := (blk_cell HH.out 0).trans rfl
  have q1 : W.cell? ⟨g + 1, 1, none⟩ = some (.int .i64 x.f1) := (blk_cell HH.out 1).trans rfl
  have q2 : W.cell? ⟨g + 1, 2, none⟩ = some (.int .i64 x.f2) := (blk_cell HH.out 2).trans rfl
  have q3 : W.cell? ⟨g + 1, 3, none⟩ = some (.string x.f3.f0) := (blk_cell HH.out 3).trans rfl
  have q4 : W.cell? ⟨g + 1, 4, none⟩ = some (.string x.f3.f1) := (blk_cell HH.out 4).trans rfl
  have q5 : W.cell? ⟨g + 1, 5, none⟩ = some (.string x.f3.f2) := (blk_cell HH.out 5).trans rfl
  have q6 : W.cell? ⟨g + 1, 6, none⟩ = some (.string x.f3.f3) := (blk_cell HH.out 6).trans rfl
  have q7 : W.cell? ⟨g + 1, 7, none⟩ = some (.int .i64 x.f3.f4) := (blk_cell HH.out 7).trans rfl
  have q8 : W.cell? ⟨g + 1, 8, none⟩ = some (.int .i64 x.f3.f5) := (blk_cell HH.out 8).trans rfl
  have q9 : W.cell? ⟨g + 1, 9, none⟩ = some (.int .i64 x.f3.f6) := (blk_cell HH.out 9).trans rfl
  have q10 : W.cell? ⟨g + 1, 10, none⟩ = some (.slice B n d) := (blk_cell HH.out 10).trans rfl
  have q11 : W.cell? ⟨g + 1, 11, none⟩ = some (.int .u8 x.f4) := (blk_cell HH.out 11).trans rfl
  have q12 : W.cell? ⟨g + 1, 12, none⟩ = some (.int .i64 x.f5) := (blk_cell HH.out 12).trans rfl
  have q13 : W.cell? ⟨g + 1, 13, none⟩ = some (.int .i64 x.f6) := (blk_cell HH.out 13).trans rfl
  have q14 : W.cell? ⟨g + 1, 14, none⟩ = some (.int .i64 x.f7) := (blk_cell HH.out 14).trans rfl
  have q15 : W.cell? ⟨g + 1, 15, none⟩ = some (.int .u32 x.f8) := (blk_cell HH.out 15).trans rfl
  have q16 : W.cell? ⟨g + 1, 16, none⟩ = some (.int .i64 x.f9) := (blk_cell HH.out 16).trans rfl
  go_wp2_with fail
  refine (HD.out W HB.out).mono ?_
  rintro e w1 ⟨rfl, hb⟩
  have HG1 := Lib.hid (blk_below HG.out hb)
  have HH1 := Lib.hid (blk_below HH.out hb)
  have HB1 := Lib.hid (below_then HB.out HB.out.size hb)
  clear hb p0 p1 p2 p3 p4 p5 p6 p7 p8 p9 p10 p11 p12 p13 p14 p15 p16 q0 q1 q2 q3 q4 q5 q6 q7 q8 q9 q10 q11 q12 q13 q14 q15 q16
  have p11 : w1.cell? ⟨g, 11, none⟩ = some (.int .u8 x.f4) := (blk_cell HG1.out 11).trans rfl
  have p12 : w1.cell? ⟨g, 12, none⟩ = some (.int .i64 x.f5) := (blk_cell HG1.out 12).trans rfl
  have p13 : w1.cell? ⟨g, 13, none⟩ = some (.int .i64 x.f6) := (blk_cell HG1.out 13).trans rfl
  have p14 : w1.cell? ⟨g, 14, none⟩ = some (.int .i64 x.f7) := (blk_cell HG1.out 14).trans rfl
  have p15 : w1.cell? ⟨g, 15, none⟩ = some (.int .u32 x.f8) := (blk_cell HG1.out 15).trans rfl
  have p16 : w1.cell? ⟨g, 16, none⟩ = some (.int .i64 x.f9) := (blk_cell HG1.out 16).trans rfl
  have q11 : w1.cell? ⟨g + 1, 11, none⟩ = some (.int .u8 x.f4) := (blk_cell HH1.out 11).trans rfl
  have q12 : w1.cell? ⟨g + 1, 12, none⟩ = some (.int .i64 x.f5) := (blk_cell HH1.out 12).trans rfl
  have q13 : w1.cell? ⟨g + 1, 13, none⟩ = some (.int .i64 x.f6) := (blk_cell HH1.out 13).trans rfl
  have q14 : w1.cell? ⟨g + 1, 14, none⟩ = some (.int .i64 x.f7) := (blk_cell HH1.out 14).trans rfl
  have q15 : w1.cell? ⟨g + 1, 15, none⟩ = some (.int .u32 x.f8) := (blk_cell HH1.out 15).trans rfl
  have q16 : w1.cell? ⟨g + 1, 16, none⟩ = some (.int .i64 x.f9) := (blk_cell HH1.out 16).trans rfl
  go_wp2
  go_ret
  exact ⟨rfl, HB1.out⟩
set_option maxRecDepth 100000 in
set_option maxHeartbeats 8000000 in
theorem sameJobs_calls (l : List S53) (hl : l.length < 9000000000000000000) (hp : ∀ x ∈ l, x.f3.f7.length < 8796093022208) (A : Option Addr) (c : Nat) (B : Option Addr) (d n : Nat) (hn : n = l.length) (w : World) (hA : Kd.C k53 w A l.length l) (hB : Kd.C k53 w B l.length l) :
    Calls Try.prog 20 #[.slice A n c, .slice B n d] w fun e w' => e = .returned (.bool true) ∧ Below w.heap.size w w' := by
  have HE := Lib.hid (fun (j : Nat) (hj : j < n) => show ∃ ad bd V1 V2, A = some ad ∧ B = some bd ∧ (∀ W, Below w.heap.size w W → (Instr.loadAt 53 (.pointer (some (ad.add (j * 17))))).run Try.prog W = .ok V1 W) ∧ (∀ W, Below w.heap.size w W → (Instr.loadAt 53 (.pointer (some (bd.add (j * 17))))).run Try.prog W = .ok V2 W) ∧ ∀ W, Below w.heap.size w W → Calls Try.prog 48 #[V1, V2] W fun e w' => e = .returned (.bool true) ∧ Below W.heap.size W w' by
    have hjl : j < l.length := by omega
    obtain ⟨ad, c1, e1, hK1, hl1⟩ := load_mid (t := 53) Try.underlying53 rfl (by kernel_rfl) hA j hjl
    obtain ⟨bd, c2, e2, hK2, hl2⟩ := load_mid (t := 53) Try.underlying53 rfl (by kernel_rfl) hB j hjl
    obtain ⟨A1, d1, rfl, h1, h2⟩ := k53_open hK1
    obtain ⟨B1, d2, rfl, h3, h4⟩ := k53_open hK2
    exact ⟨ad, bd, _, _, e1, e2, hl1, hl2, fun W hb => sameJobT _ A1 d1 B1 d2 _ rfl W (Kd.C_below h2 hb) h1 (Kd.C_below h4 hb) h3 (by have := hp _ (List.getElem_mem hjl); omega)⟩)
  have HB := Lib.hid (Below.refl w.heap.size w)
  have h9 : n < 9000000000000000000 := by omega
  clear hl hp hn hA hB
  go_enter Try.func20, Try.ntmps20
  go_wp2
  go_loopw [5] (fun v5 wr => ∃ j : Nat, j ≤ n ∧ v5 = .int .i64 j ∧ Hid (Below w.heap.size w wr)) (fun v5 _ => n - (intOf v5).toNat)
  case atStart => exact ⟨0, Nat.zero_le _, rfl, HB⟩
  case round =>
    clear HB
    obtain ⟨j, hj, rfl, HB⟩ := hrel
    by_cases hlt : j < n
    · obtain ⟨ad, bd, V1, V2, e1, e2, hL1, hL2, hC⟩ := HE.out j hlt
      cases e1
      cases e2
      have HBd := Lib.hid (below_drew HB.out)
      have HL1 := Lib.hid hL1
      have HL2 := Lib.hid hL2
      have HC := Lib.hid hC
      have hj1 : wrap64 ((j : Int) + 1) = (j : Int) + 1 := by unfold wrap64; omega
      clear hL1 hL2 hC
      go_upto_region 6 with (fail)
      refine start_ (n := 10) (S := fun w' => (Instr.loadAt 53 (.pointer (some (ad.add (j * 17))))).run Try.prog w' = .ok V1 w' ∧ (Instr.loadAt 53 (.pointer (some (bd.add (j * 17))))).run Try.prog w' = .ok V2 w') (ds := []) (lk 10 0) (by kernel_rfl) rfl rfl ⟨HL1.out _ HBd.out, HL2.out _ HBd.out⟩ (fun hHeld => ?_)
      refine with_tabW sameJobsR.tab6 sameJobsR.bits6 (fun HT_ HW_ => ?_)
      refine pu (i := 0) (N := some 17) (lk 10 1) ?_
      refine pu (i := 1) (N := some 18) (lk 10 3) ?_
      refine pu (i := 2) (N := some 19) (lk 10 7) ?_
      refine pu (i := 4) (N := some 21) (lk 10 23) ?_
      refine pu (i := 5) (N := some 22) (lk 10 55) ?_
      refine pu (i := 6) (N := some 23) (lk 10 119) ?_
      refine take_ (i := 3) (N := some 20) (v := ?_) (a' := ?_) (lk 10 127) rfl rfl (take_ofW HT_.out HW_.out (by kernel_rfl)) (fun _ _ _ h => h) (Or.inl ⟨by rfl, ?_⟩) hHeld ?_ ?_
      rotate_left
      · rintro w' ⟨s0, s1⟩
        refine Eq.trans (exec_loadC (by rfl) (by rfl) s0) ?_
        with_reducible rfl
      rotate_left
      · simp only [Act.put, List.setIfInBounds_toArray, List.set_cons_zero, List.set_cons_succ, i64_w, i32_w]
        rfl
      refine take_ (i := 7) (N := some 24) (v := ?_) (a' := ?_) (lk 10 255) rfl rfl (take_ofW HT_.out HW_.out (by kernel_rfl)) (fun _ _ _ h => h) (Or.inl ⟨by rfl, ?_⟩) hHeld ?_ ?_
      rotate_left
      · rintro w' ⟨s0, s1⟩
        refine Eq.trans (exec_loadC (by rfl) (by rfl) s1) ?_
        with_reducible rfl
      rotate_left
      · simp only [Act.put, List.setIfInBounds_toArray, List.set_cons_zero, List.set_cons_succ, i64_w, i32_w]
        rfl
      refine on1 (i := 8) (N := some 25) (lk 10 511) (fun K hK => ?_)
      refine goes_ Try.func48 (by kernel_rfl) rfl #[V1, V2] (by rfl) rfl rfl (by simp only [List.map_toArray, List.map_cons, List.map_nil]; rfl) ?_
      with_reducible refine (HC.out _ HBd.out).mono ?_
      rintro e W1 ⟨rfl, hb⟩
      refine ⟨_, rfl, ?_⟩
      have HB7 := Lib.hid (below_then HBd.out HBd.out.size hb)
      clear hb
      refine hK.out _ _ ⟨HL1.out _ HB7.out, HL2.out _ HB7.out⟩ (fun hHeld => ?_)
      clear hK K
      refine nm (some 25) ?_
      refine pu (i := 9) (N := some 26) (lk 10 1023) ?_
      refine done_ (done_of HT_.out (by kernel_rfl)) ?_
      
      go_wp2
      go_roundw
      case rel => exact ⟨j + 1, by omega, by simp, HB7⟩
      case measure => simp [intOf]; omega
    · obtain rfl : n = j := by omega
      go_wp2
      go_ret
      exact ⟨rfl, HB.out⟩
set_option maxRecDepth 100000 in
set_option maxHeartbeats 8000000 in
theorem sameParts_calls (l : List S87) (hl : l.length < 9000000000000000000) (hp : ∀ x ∈ l, x.f4.length < 8796093022208) (A : Option Addr) (c : Nat) (B : Option Addr) (d n : Nat) (hn : n = l.length) (w : World) (hA : Kd.C k87 w A l.length l) (hB : Kd.C k87 w B l.length l) :
    Calls Try.prog 45 #[.slice A n c, .slice B n d] w fun e w' => e = .returned (.bool true) ∧ Below w.heap.size w w' := by
  have HE := Lib.hid (fun (j : Nat) (hj : j < n) => show ∃ ad bd V1 V2, A = some ad ∧ B = some bd ∧ (∀ W, Below w.heap.size w W → (Instr.loadAt 87 (.pointer (some (ad.add (j * 5))))).run Try.prog W = .ok V1 W) ∧ (∀ W, Below w.heap.size w W → (Instr.loadAt 87 (.pointer (some (bd.add (j * 5))))).run Try.prog W = .ok V2 W) ∧ ∀ W, Below w.heap.size w W → Calls Try.prog 64 #[V1, V2] W fun e w' => e = .returned (.bool true) ∧ Below W.heap.size W w' by
    have hjl : j < l.length := by omega
    obtain ⟨ad, c1, e1, hK1, hl1⟩ := load_mid (t := 87) Try.underlying87 rfl (by kernel_rfl) hA j hjl
    obtain ⟨bd, c2, e2, hK2, hl2⟩ := load_mid (t := 87) Try.underlying87 rfl (by kernel_rfl) hB j hjl
    obtain ⟨A1, d1, rfl, h1, h2⟩ := k87_open hK1
    obtain ⟨B1, d2, rfl, h3, h4⟩ := k87_open hK2
    exact ⟨ad, bd, _, _, e1, e2, hl1, hl2, fun W hb => samePartT _ A1 d1 B1 d2 _ rfl W (Kd.C_below h2 hb) h1 (Kd.C_below h4 hb) h3 (by have := hp _ (List.getElem_mem hjl); omega)⟩)
  have HB := Lib.hid (Below.refl w.heap.size w)
  have h9 : n < 9000000000000000000 := by omega
  clear hl hp hn hA hB
  go_enter Try.func45, Try.ntmps45
  go_wp2
  go_loopw [5] (fun v5 wr => ∃ j : Nat, j ≤ n ∧ v5 = .int .i64 j ∧ Hid (Below w.heap.size w wr)) (fun v5 _ => n - (intOf v5).toNat)
  case atStart => exact ⟨0, Nat.zero_le _, rfl, HB⟩
  case round =>
    clear HB
    obtain ⟨j, hj, rfl, HB⟩ := hrel
    by_cases hlt : j < n
    · obtain ⟨ad, bd, V1, V2, e1, e2, hL1, hL2, hC⟩ := HE.out j hlt
      cases e1
      cases e2
      have HBd := Lib.hid (below_drew HB.out)
      have HL1 := Lib.hid hL1
      have HL2 := Lib.hid hL2
      have HC := Lib.hid hC
      have hj1 : wrap64 ((j : Int) + 1) = (j : Int) + 1 := by unfold wrap64; omega
      clear hL1 hL2 hC
      go_upto_region 6 with (fail)
      refine start_ (n := 10) (S := fun w' => (Instr.loadAt 87 (.pointer (some (ad.add (j * 5))))).run Try.prog w' = .ok V1 w' ∧ (Instr.loadAt 87 (.pointer (some (bd.add (j * 5))))).run Try.prog w' = .ok V2 w') (ds := []) (lk 10 0) (by kernel_rfl) rfl rfl ⟨HL1.out _ HBd.out, HL2.out _ HBd.out⟩ (fun hHeld => ?_)
      refine with_tabW samePartsR.tab6 samePartsR.bits6 (fun HT_ HW_ => ?_)
      refine pu (i := 0) (N := some 17) (lk 10 1) ?_
      refine pu (i := 1) (N := some 18) (lk 10 3) ?_
      refine pu (i := 2) (N := some 19) (lk 10 7) ?_
      refine pu (i := 4) (N := some 21) (lk 10 23) ?_
      refine pu (i := 5) (N := some 22) (lk 10 55) ?_
      refine pu (i := 6) (N := some 23) (lk 10 119) ?_
      refine take_ (i := 3) (N := some 20) (v := ?_) (a' := ?_) (lk 10 127) rfl rfl (take_ofW HT_.out HW_.out (by kernel_rfl)) (fun _ _ _ h => h) (Or.inl ⟨by rfl, ?_⟩) hHeld ?_ ?_
      rotate_left
      · rintro w' ⟨s0, s1⟩
        refine Eq.trans (exec_loadC (by rfl) (by rfl) s0) ?_
        with_reducible rfl
      rotate_left
      · simp only [Act.put, List.setIfInBounds_toArray, List.set_cons_zero, List.set_cons_succ, i64_w, i32_w]
        rfl
      refine take_ (i := 7) (N := some 24) (v := ?_) (a' := ?_) (lk 10 255) rfl rfl (take_ofW HT_.out HW_.out (by kernel_rfl)) (fun _ _ _ h => h) (Or.inl ⟨by rfl, ?_⟩) hHeld ?_ ?_
      rotate_left
      · rintro w' ⟨s0, s1⟩
        refine Eq.trans (exec_loadC (by rfl) (by rfl) s1) ?_
        with_reducible rfl
      rotate_left
      · simp only [Act.put, List.setIfInBounds_toArray, List.set_cons_zero, List.set_cons_succ, i64_w, i32_w]
        rfl
      refine on1 (i := 8) (N := some 25) (lk 10 511) (fun K hK => ?_)
      refine goes_ Try.func64 (by kernel_rfl) rfl #[V1, V2] (by rfl) rfl rfl (by simp only [List.map_toArray, List.map_cons, List.map_nil]; rfl) ?_
      with_reducible refine (HC.out _ HBd.out).mono ?_
      rintro e W1 ⟨rfl, hb⟩
      refine ⟨_, rfl, ?_⟩
      have HB7 := Lib.hid (below_then HBd.out HBd.out.size hb)
      clear hb
      refine hK.out _ _ ⟨HL1.out _ HB7.out, HL2.out _ HB7.out⟩ (fun hHeld => ?_)
      clear hK K
      refine nm (some 25) ?_
      refine pu (i := 9) (N := some 26) (lk 10 1023) ?_
      refine done_ (done_of HT_.out (by kernel_rfl)) ?_
      
      go_wp2
      go_roundw
      case rel => exact ⟨j + 1, by omega, by simp, HB7⟩
      case measure => simp [intOf]; omega
    · obtain rfl : n = j := by omega
      go_wp2
      go_ret
      exact ⟨rfl, HB.out⟩
set_option maxRecDepth 100000 in
set_option maxHeartbeats 8000000 in
theorem sameCfg_calls {l0 : List Int} {l1 : List S87} {ac : List S57} {q : List S59} (M : Mild l0 l1 ac q) (A0 : Option Addr) (c0 : Nat) (A1 : Option Addr) (c1 : Nat) (A2 : Option Addr) (c2 : Nat) (A3 : Option Addr) (c3 : Nat) (B0 : Option Addr) (d0 : Nat) (B1 : Option Addr) (d1 : Nat) (B2 : Option Addr) (d2 : Nat) (B3 : Option Addr) (d3 : Nat) (pl : Int) (w : World)
    (h0 : Kd.C (Kd.int .i64) w A0 l0.length l0) (h1 : l0.length ≤ c0) (h2 : Kd.C k87 w A1 l1.length l1) (h3 : l1.length ≤ c1) (h4 : Kd.C k57 w A2 ac.length ac) (h5 : ac.length ≤ c2) (h6 : Kd.C k59 w A3 q.length q) (h7 : q.length ≤ c3)
    (e0 : Kd.C (Kd.int .i64) w B0 l0.length l0) (e1 : l0.length ≤ d0) (e2 : Kd.C k87 w B1 l1.length l1) (e3 : l1.length ≤ d1) (e4 : Kd.C k57 w B2 ac.length ac) (e5 : ac.length ≤ d2) (e6 : Kd.C k59 w B3 q.length q) (e7 : q.length ≤ d3)
    {m0 m1 m2 m3 : Nat} (hm0 : m0 = l0.length) (hm1 : m1 = l1.length) (hm2 : m2 = ac.length) (hm3 : m3 = q.length) :
    Calls Try.prog 19 #[.agg #[.slice A0 m0 c0, .slice A1 m1 c1, .slice A2 m2 c2, .slice A3 m3 c3, .int .u8 pl], .agg #[.slice B0 m0 d0, .slice B1 m1 d1, .slice B2 m2 d2, .slice B3 m3 d3, .int .u8 pl]] w fun e w' => e = .returned (.bool true) ∧ Below w.heap.size w w' := by
  have i0 := M.i; have i1 := M.p; have i2 := M.a; have i3 := M.q
  have H0 := Lib.hid (fun W (hb : Below w.heap.size w W) => show Calls Try.prog 44 #[.slice A0 m0 c0, .slice B0 m0 d0] W fun e w' => e = .returned (.bool true) ∧ Below W.heap.size W w' by
    rw [hm0]
    obtain ⟨k, hk⟩ := Ev.the (f := fun k => musterkit_SameInts.f k l0 l0) (r := true) (Ev.pos rfl (sameInts_l0 l0 (by omega) _ 0 rfl (Nat.zero_le _)))
    exact (musterkit_SameInts.calls k A0 c0 l0 B0 d0 l0 true W (Kd.C_below h0 hb) h1 (Kd.C_below e0 hb) e1 hk).mono fun e w' q => ⟨q.1, q.2.below⟩)
  have H1 := Lib.hid (fun W (hb : Below w.heap.size w W) => sameParts_calls l1 (by omega) M.t A1 c1 B1 d1 m1 hm1 W (Kd.C_below h2 hb) (Kd.C_below e2 hb))
  have H2 := Lib.hid (fun W (hb : Below w.heap.size w W) => show Calls Try.prog 46 #[.slice A2 m2 c2, .slice B2 m2 d2] W fun e w' => e = .returned (.bool true) ∧ Below W.heap.size W w' by
    rw [hm2]
    obtain ⟨k, hk⟩ := Ev.the (f := fun k => musterkit_SameAccounts.f k ac ac) (r := true) (Ev.pos rfl (sameAcc_l0 ac (by omega) _ 0 rfl (Nat.zero_le _)))
    exact (musterkit_SameAccounts.calls k A2 c2 ac B2 d2 ac true W (Kd.C_below h4 hb) h5 (Kd.C_below e4 hb) e5 hk).mono fun e w' q => ⟨q.1, q.2.below⟩)
  have H3 := Lib.hid (fun W (hb : Below w.heap.size w W) => show Calls Try.prog 47 #[.slice A3 m3 c3, .slice B3 m3 d3] W fun e w' => e = .returned (.bool true) ∧ Below W.heap.size W w' by
    rw [hm3]
    obtain ⟨k, hk⟩ := Ev.the (f := fun k => musterkit_SameQos.f k q q) (r := true) (Ev.pos rfl (sameQos_l0 q (by omega) _ 0 rfl (Nat.zero_le _)))
    exact (musterkit_SameQos.calls k A3 c3 q B3 d3 q true W (Kd.C_below h6 hb) h7 (Kd.C_below e6 hb) e7 hk).mono fun e w' q => ⟨q.1, q.2.below⟩)
  clear i0 i1 i2 i3 M h0 h1 h2 h3 h4 h5 h6 h7 e0 e1 e2 e3 e4 e5 e6 e7 hm0 hm1 hm2 hm3
  have HG := Lib.hid (blk_alloc (heap_alloc_new w (.cells #[.slice A0 m0 c0, .slice A1 m1 c1, .slice A2 m2 c2, .slice A3 m3 c3, .int .u8 pl] 28)) (.cells #[.slice B0 m0 d0, .slice B1 m1 d1, .slice B2 m2 d2, .slice B3 m3 d3, .int .u8 pl] 28))
  have HH := Lib.hid (heap_alloc_new (w.alloc (.cells #[.slice A0 m0 c0, .slice A1 m1 c1, .slice A2 m2 c2, .slice A3 m3 c3, .int .u8 pl] 28)) (.cells #[.slice B0 m0 d0, .slice B1 m1 d1, .slice B2 m2 d2, .slice B3 m3 d3, .int .u8 pl] 28))
  have HB := Lib.hid (below_alloc (below_alloc (Below.refl w.heap.size w) (.cells #[.slice A0 m0 c0, .slice A1 m1 c1, .slice A2 m2 c2, .slice A3 m3 c3, .int .u8 pl] 28)) (.cells #[.slice B0 m0 d0, .slice B1 m1 d1, .slice B2 m2 d2, .slice B3 m3 d3, .int .u8 pl] 28))
  have es : (w.alloc (.cells #[.slice A0 m0 c0, .slice A1 m1 c1, .slice A2 m2 c2, .slice A3 m3 c3, .int .u8 pl] 28)).heap.size = w.heap.size + 1 := by unfold World.alloc; simp
  rw [es] at HH
  clear es
  go_enter Try.func19, Try.ntmps19
  go_upto_region 1 with (fail)
  generalize World.alloc _ _ = W at HG HH HB ⊢
  obtain ⟨g, hg⟩ : ∃ g, g = w.heap.size := ⟨_, rfl⟩
  rw [← hg] at HG HH ⊢
  clear hg
  have p0 : W.cell? ⟨g, 0, none⟩ = some (.slice A0 m0 c0) := (blk_cell HG.out 0).trans rfl
  have p4 : W.cell? ⟨g, 4, none⟩ = some (.int .u8 pl) := (blk_cell HG.out 4).trans rfl
  have q0 : W.cell? ⟨g + 1, 0, none⟩ = some (.slice B0 m0 d0) := (blk_cell HH.out 0).trans rfl
  have q4 : W.cell? ⟨g + 1, 4, none⟩ = some (.int .u8 pl) := (blk_cell HH.out 4).trans rfl
  go_wp2_with fail
  refine (H0.out W HB.out).mono ?_
  rintro e w1 ⟨rfl, hb⟩
  have HG1 := Lib.hid (blk_below HG.out hb)
  have HH1 := Lib.hid (blk_below HH.out hb)
  have HB1 := Lib.hid (below_then HB.out HB.out.size hb)
  clear hb p0 p4 q0 q4
  have p1 : w1.cell? ⟨g, 1, none⟩ = some (.slice A1 m1 c1) := (blk_cell HG1.out 1).trans rfl
  have q1 : w1.cell? ⟨g + 1, 1, none⟩ = some (.slice B1 m1 d1) := (blk_cell HH1.out 1).trans rfl
  go_wp2_with fail
  refine (H1.out w1 HB1.out).mono ?_
  rintro e w2 ⟨rfl, hb⟩
  have HG2 := Lib.hid (blk_below HG1.out hb)
  have HH2 := Lib.hid (blk_below HH1.out hb)
  have HB2 := Lib.hid (below_then HB1.out HB1.out.size hb)
  clear hb p1 q1
  have p2 : w2.cell? ⟨g, 2, none⟩ = some (.slice A2 m2 c2) := (blk_cell HG2.out 2).trans rfl
  have q2 : w2.cell? ⟨g + 1, 2, none⟩ = some (.slice B2 m2 d2) := (blk_cell HH2.out 2).trans rfl
  go_wp2_with fail
  refine (H2.out w2 HB2.out).mono ?_
  rintro e w3 ⟨rfl, hb⟩
  have HG3 := Lib.hid (blk_below HG2.out hb)
  have HH3 := Lib.hid (blk_below HH2.out hb)
  have HB3 := Lib.hid (below_then HB2.out HB2.out.size hb)
  clear hb p2 q2
  have p3 : w3.cell? ⟨g, 3, none⟩ = some (.slice A3 m3 c3) := (blk_cell HG3.out 3).trans rfl
  have q3 : w3.cell? ⟨g + 1, 3, none⟩ = some (.slice B3 m3 d3) := (blk_cell HH3.out 3).trans rfl
  go_wp2_with fail
  refine (H3.out w3 HB3.out).mono ?_
  rintro e w4 ⟨rfl, hb⟩
  have HG4 := Lib.hid (blk_below HG3.out hb)
  have HH4 := Lib.hid (blk_below HH3.out hb)
  have HB4 := Lib.hid (below_then HB3.out HB3.out.size hb)
  clear hb p3 q3
  go_wp2
  go_ret
  exact ⟨rfl, HB4.out⟩
end Go.Proofs.Ytcnobkcddgcifaa.PT
/- The law QuotaTells. (A part of the print PT.) -/
set_option linter.unusedVariables false
set_option linter.unusedSimpArgs false
namespace Go.Proofs.Ytcnobkcddgcifaa.PT
open Go.RowKit Go.Proofs.YtcnobkcddgcifaaW.PrintWords Go.Proofs.YtcnobkcddgcifaaW.PrintLast Go.Proofs.YtcnobkcddgcifaaW.PrintMore Go.Proofs.Ytcnobkcddgcifaa.Gen Go.Proofs.Ytcnobkcddgcifaa.EvK
def quotaTells8.T8 : Bool × List (List Nat × List Nat) := (true, [([], []), ([], []), ([0, 1], [0, 1]), ([2], [2]), ([3], [3]), ([3], [3]), ([4, 5, 3], [3, 4, 5]), ([3, 6], [3, 6]), ([7, 3], [7]), ([8], [8]), ([8], [8]), ([9, 10, 8], [8, 9, 10]), ([8, 11], [8, 11]), ([12, 8], [12]), ([13], [13]), ([13], [13]), ([14, 15, 13], [13, 14, 15]), ([13, 16], [13, 16]), ([17, 13], [17]), ([18], [18]), ([18], [18]), ([19, 20, 18], [18, 19, 20]), ([18, 21], [18, 21]), ([22, 18], [22]), ([23], [23]), ([24, 23, 23], [23, 24]), ([23], [23]), ([26, 25, 23], [23, 26]), ([25, 27, 23], [23, 25, 27]), ([23, 28], [23, 28]), ([29, 27], [29]), ([30], [30]), ([30], [30]), ([30], [30]), ([31, 32, 33, 30, 30], [30, 31, 32, 33]), ([30], [30]), ([30], [30]), ([30], [30]), ([35, 36, 37, 34, 30], [30, 35, 36, 37]), ([34, 38, 30], [30, 34, 38]), ([30, 39], [30, 39])])
def quotaTells8.B8 : List Nat := [0, 0, 3, 7, 15, 15, 63, 127, 255, 511, 511, 2047, 4095, 8191, 16383, 16383, 65535, 131071, 262143, 524287, 524287, 2097151, 4194303, 8388607, 16777215, 33554431, 16777215, 134217727, 268435455, 536870911, 1073741823, 2147483647, 2147483647, 2147483647, 17179869183, 2147483647, 2147483647, 2147483647, 274877906943, 549755813887, 1099511627775]
theorem quotaTells8.tab8 : rtab .any (opsOf Try.f3 8) = quotaTells8.T8 := by kernel_rfl
theorem quotaTells8.bits8 : waitsOk quotaTells8.T8.2 quotaTells8.B8 = true := by kernel_rfl
theorem wildT_f (s : S32) : musterlaw15_wild.f s.f0 s.f1 s.f2 s.f3 s.f4 s.f5 s.f6 s.f7 = some (!tameS s) := by
  unfold musterlaw15_wild.f tameS
  by_cases h1 : s.f4 < 1
  · rw [if_pos h1, decide_eq_false (by omega)]; rfl
  rw [if_neg h1]
  by_cases h2 : s.f4 > 64
  · rw [if_pos h2, decide_eq_false (by omega)]; rfl
  rw [if_neg h2]
  by_cases h3 : s.f5 < 1
  · rw [if_pos h3, decide_eq_false (by omega)]; rfl
  rw [if_neg h3]
  by_cases h4 : s.f5 > 64
  · rw [decide_eq_true h4, decide_eq_false (by omega)]; rfl
  · rw [decide_eq_false h4, decide_eq_true (by omega)]; rfl
theorem wildsT_l0 (l : List S53) (hl : l.length < 9000000000000000000) : ∀ d j, l.length - j = d → j ≤ l.length → Ev (fun k => musterlaw15_wilds.l0 k l (j : Int)) ((l.drop j).any (fun x => !tameS x.f3))
  | 0, j, hd, hj => Ev.stp (fun k => by rw [musterlaw15_wilds.l0]) (Ev.neg (by omega) (Ev.one (by rw [List.drop_of_length_le (by omega)]; rfl)))
  | d + 1, j, hd, hj => by
    have hlt : j < l.length := by omega
    refine Ev.stp (fun k => by rw [musterlaw15_wilds.l0]) (Ev.pos (by omega) (Ev.pos (by omega) ?_))
    rw [rdJob hlt, wildT_f]
    refine Ev.sbnd ?_
    rw [List.drop_eq_getElem_cons hlt, List.any_cons]
    cases tameS l[j].f3 with
    | false => exact Ev.pos rfl (Ev.one (by simp))
    | true =>
      refine Ev.neg (by decide) ?_
      rw [wr1 (by omega)]
      simpa using wildsT_l0 l hl d (j + 1) (by omega) (by omega)
theorem wildsT_calls (l : List S53) (hl : l.length < 9000000000000000000) (A : Option Addr) (c : Nat) (w : World) (hr : Kd.C k53 w A l.length l) (hc : l.length ≤ c) : Calls Try.prog 7 #[.slice A l.length c] w fun e w' => e = .returned (.bool (l.any (fun x => !tameS x.f3))) ∧ Below w.heap.size w w' := by
  obtain ⟨k, hk⟩ := Ev.the (wildsT_l0 l hl _ 0 rfl (Nat.zero_le _))
  exact musterlaw15_wilds.calls k A c l _ w hr hc hk
theorem wildT_calls (s : S32) (A7 : Option Addr) (c7 : Nat) (w : World) (hr : Kd.C k112 w A7 s.f7.length s.f7) (hc : s.f7.length ≤ c7) :
    Calls Try.prog 6 #[.agg (specC s A7 c7)] w fun e w' => e = .returned (.bool (!tameS s)) ∧ Below w.heap.size w w' :=
  musterlaw15_wild.calls s.f0 s.f1 s.f2 s.f3 s.f4 s.f5 s.f6 A7 c7 s.f7 _ w hr hc (wildT_f s)
theorem specT_ld {w : World} {g : Nat} {x : S32} {A : Option Addr} {c : Nat} (h : w.heap[g]? = some (.cells (specC x A c) 32 (0, 0))) : (Instr.loadAt 32 (.pointer (some ⟨g, 0, none⟩))).run Try.prog w = .ok (.agg (specC x A c)) w := by
  have hld := run_loadVar_row (P := Try.prog) w g 32 32 (specC x A c) (0, 0) _ h Try.underlying32 rfl infoSpec
  simp only [Instr.loadAt, Instr.sureAddr, Sem.run_bind, Sem.run_pure, Result.andThen_ok, hld]
theorem wl_store {P : Program} {ops : Array Oper} {rest : List Oper} {o : Oper} {a : Act} {Q : Exit → Act → World → Prop} (t : TypeId) (p v : Operand) {W : World} {g : Nat} {t0 : TypeId} {old cells : Array Value} (ho : o.op = .store t p v) (hgd : o.guard = none) (hp : a.eval p = .pointer (some ⟨g, 0, none⟩)) (hv : a.eval v = .agg cells) (hg : W.heap[g]? = some (.cells old t0 (0, 0)))
    (hi : (P.info? t).map (·.size) = some cells.size) (hs : old.size = cells.size) (h1 : cells.all (·.oneCell') = true)
    (h : wpList P ops Q rest (a.put o.dst undef) (W.setRow g cells)) : wpList P ops Q (o :: rest) a W :=
  wpList_plain hgd fun K hK => by
    unfold Oper.wp
    rw [exec_store ho hp hv hg hi hs h1]
    exact hK _ _ h
/-- What stands while the law runs: the boxes, and all that was. -/
structure TB (w w4 : World) (g g7 : Nat) (cs cs2 sp : Array Value) (W : World) : Prop where
  b3 : W.heap[g]? = some (.cells cs 28 (0, 0))
  b5 : W.heap[g + 1]? = some (.cells sp 32 (0, 0))
  b7 : W.heap[g7]? = some (.cells cs2 28 (0, 0))
  bel : Below w.heap.size w W
  bel4 : Below w4.heap.size w4 W
theorem TB.keep {w w4 : World} {g g7 : Nat} {cs cs2 sp : Array Value} {W W' : World} (h : TB w w4 g g7 cs cs2 sp W) (hb : Below W.heap.size W W') : TB w w4 g g7 cs cs2 sp W' :=
  ⟨blk_below h.b3 hb, blk_below h.b5 hb, blk_below h.b7 hb, below_then h.bel h.bel.size hb, below_then h.bel4 h.bel4.size hb⟩
theorem cs_ld {w : World} {g : Nat} {C : Array Value} (hs : C.size = 5) (h : w.heap[g]? = some (.cells C 28 (0, 0))) : (Instr.loadAt 28 (.pointer (some ⟨g, 0, none⟩))).run Try.prog w = .ok (.agg C) w := by
  have hld := run_loadVar_row (P := Try.prog) w g 28 28 C (0, 0) _ h Try.underlying28 rfl (by rw [hs]; exact infoCfg)
  simp only [Instr.loadAt, Instr.sureAddr, Sem.run_bind, Sem.run_pure, Result.andThen_ok, hld]
set_option maxRecDepth 100000 in
set_option maxHeartbeats 16000000 in
theorem tells_law {w : World} {l0 : List Int} {l1 : List S87} {ac : List S57} {q : List S59} (M : Mild l0 l1 ac q) (hmd : mildQ q ac = true) (A0 : Option Addr) (c0 : Nat) (A1 : Option Addr) (c1 : Nat) (A2 : Option Addr) (c2 : Nat) (A3 : Option Addr) (c3 : Nat) (pl : Int)
    (h0 : Kd.C (Kd.int .i64) w A0 l0.length l0) (h1 : l0.length ≤ c0) (h2 : Kd.C k87 w A1 l1.length l1) (h3 : l1.length ≤ c1) (h4 : Kd.C k57 w A2 ac.length ac) (h5 : ac.length ≤ c2) (h6 : Kd.C k59 w A3 q.length q) (h7 : q.length ≤ c3)
    (js : List S53) (A : Option Addr) (c : Nat) (hr : Kd.C k53 w A js.length js) (hc : js.length ≤ c) (hnj : js.length < 9000000000000000000) (hdep : ∀ x ∈ js, x.f3.f7.length < 8796093022208) (s : S32) (A7 : Option Addr) (c7 : Nat) (h8 : Kd.C k112 w A7 s.f7.length s.f7) (h9 : s.f7.length ≤ c7) :
    Calls Try.prog 3 #[.agg (cfgV A0 l0.length c0 A1 l1.length c1 A2 ac.length c2 A3 q.length c3 pl), .slice A js.length c, .agg (specC s A7 c7)] w fun e w' => e = .returned (.bool true) ∧ Below w.heap.size w w' := by
  have HJ := Lib.hid (And.intro hr (And.intro hc hdep))
  have HSp := Lib.hid (And.intro h8 h9)
  have HM := Lib.hid M
  have HMd := Lib.hid hmd
  have HC0 := Lib.hid h0
  have HC1 := Lib.hid h1
  have HC2 := Lib.hid h2
  have HC3 := Lib.hid h3
  have HC4 := Lib.hid h4
  have HC5 := Lib.hid h5
  have HC6 := Lib.hid h6
  have HC7 := Lib.hid h7
  have hn9 : js.length ≤ 9223372036854775807 := hr.2.1
  have h29 : ac.length ≤ 9223372036854775807 := h4.2.1
  have h39 : q.length ≤ 9223372036854775807 := h6.2.1
  obtain ⟨n1, hn1⟩ : ∃ n, n = js.length := ⟨_, rfl⟩
  obtain ⟨m0, hm0⟩ : ∃ n, n = l0.length := ⟨_, rfl⟩
  obtain ⟨m1, hm1⟩ : ∃ n, n = l1.length := ⟨_, rfl⟩
  obtain ⟨n2, hn2⟩ : ∃ n, n = ac.length := ⟨_, rfl⟩
  obtain ⟨n3, hn3⟩ : ∃ n, n = q.length := ⟨_, rfl⟩
  have HN := Lib.hid (And.intro hn1 (And.intro hm0 (And.intro hm1 (And.intro hn2 hn3))))
  rw [← hn1] at hn9 ⊢
  rw [← hn2] at h29
  rw [← hn3] at h39
  rw [← hm0, ← hm1, ← hn2, ← hn3]
  obtain ⟨cs, hcs⟩ : ∃ cs, cs = cfgV A0 m0 c0 A1 m1 c1 A2 n2 c2 A3 n3 c3 pl := ⟨_, rfl⟩
  obtain ⟨sp, hsp⟩ : ∃ sp, sp = specC s A7 c7 := ⟨_, rfl⟩
  have HCS := Lib.hid hcs
  have HSP := Lib.hid hsp
  have hT : n1 < 9000000000000000000 := by rw [hn1]; exact hnj
  have HWi := Lib.hid (fun W (hB : Below w.heap.size w W) => wildT_calls s A7 c7 W (Kd.C_below h8 hB) h9)
  have HWs := Lib.hid (fun W (hB : Below w.heap.size w W) => wildsT_calls js (by rw [← hn1]; exact hT) A c W (Kd.C_below hr hB) hc)
  rw [← hsp] at HWi
  rw [← hn1] at HWs
  have HG := Lib.hid (blk_alloc (heap_alloc_new w (.cells cs 28)) (.cells sp 32))
  have HH := Lib.hid (heap_alloc_new (w.alloc (.cells cs 28)) (.cells sp 32))
  have HB := Lib.hid (below_alloc (below_alloc (Below.refl w.heap.size w) (.cells cs 28)) (.cells sp 32))
  have es : (w.alloc (.cells cs 28)).heap.size = w.heap.size + 1 := by unfold World.alloc; simp
  rw [es] at HH
  rw [← hcs, ← hsp]
  clear es M hmd h0 h1 h2 h3 h4 h5 h6 h7 hr hc hdep h8 h9 hn1 hm0 hm1 hn2 hn3 hcs hsp
  go_enter Try.func3, Try.ntmps3
  go_upto_region 1 with (fail)
  generalize World.alloc _ _ = W at HG HH HB ⊢
  obtain ⟨g, hg⟩ : ∃ g, g = w.heap.size := ⟨_, rfl⟩
  rw [← hg] at HG HH ⊢
  clear hg
  cases q300 : decide ((300 : Int) < (n1 : Int)) with
  | true =>
    go_wp2_with fail
    refine (awake15_calls _).mono ?_
    rintro e wz ⟨rfl, hb⟩
    have HBz := Lib.hid (below_then HB.out HB.out.size hb)
    clear hb
    go_wp2
    go_ret
    exact ⟨rfl, HBz.out⟩
  | false =>
  go_wp2_with (first | ((with_reducible refine gate_ (.load 32 (.tmp 5)) rfl ?_); (refine gate_guard (by rfl) ?_; dsimp only); refine wl_load 32 (.tmp 5) rfl rfl _ (.agg sp) rfl (by rw [HSP.out]; exact specT_ld (by rw [← HSP.out]; exact HH.out)) ?_) | fail)
  refine (HWi.out W HB.out).mono ?_
  rintro e w1 ⟨rfl, hb⟩
  have HG1 := Lib.hid (blk_below HG.out hb)
  have HH1 := Lib.hid (blk_below HH.out hb)
  have HB1 := Lib.hid (below_then HB.out HB.out.size hb)
  clear hb HG HH HB HWi
  cases hts : tameS s with
  | false =>
    have HX := Lib.hid HB1.out
    go_wp2_with fail
    refine (awake15_calls _).mono ?_
    rintro e wz ⟨rfl, hb⟩
    have HBz := Lib.hid (below_then HX.out HX.out.size hb)
    clear hb
    go_wp2
    go_ret
    exact ⟨rfl, HBz.out⟩
  | true =>
  have HTS := Lib.hid hts
  clear hts
  go_wp2_with fail
  refine (HWs.out w1 HB1.out).mono ?_
  rintro e w2 ⟨rfl, hb⟩
  have HG2 := Lib.hid (blk_below HG1.out hb)
  have HH2 := Lib.hid (blk_below HH1.out hb)
  have HB2 := Lib.hid (below_then HB1.out HB1.out.size hb)
  clear hb HG1 HH1 HB1 HWs
  cases hws : js.any (fun x => !tameS x.f3) with
  | true =>
    go_wp2_with fail
    refine (awake15_calls _).mono ?_
    rintro e wz ⟨rfl, hb⟩
    have HBz := Lib.hid (below_then HB2.out HB2.out.size hb)
    clear hb
    go_wp2
    go_ret
    exact ⟨rfl, HBz.out⟩
  | false =>
  have HTm : Hid (∀ x ∈ js, tameS x.f3 = true) := Lib.hid (fun x hx => by rw [List.any_eq_false] at hws; simpa using hws x hx)
  clear hws
  have a2 : w2.cell? ⟨g, 2, none⟩ = some (.slice A2 n2 c2) := (blk_cell HG2.out 2).trans (by rw [HCS.out]; rfl)
  have a3 : w2.cell? ⟨g, 3, none⟩ = some (.slice A3 n3 c3) := (blk_cell HG2.out 3).trans (by rw [HCS.out]; rfl)
  cases q60 : decide ((60 : Int) < (n2 : Int)) with
  | true =>
    go_wp2_with fail
    refine (awake15_calls _).mono ?_
    rintro e wz ⟨rfl, hb⟩
    have HBz := Lib.hid (below_then HB2.out HB2.out.size hb)
    clear hb
    go_wp2
    go_ret
    exact ⟨rfl, HBz.out⟩
  | false =>
  cases p60 : decide ((60 : Int) < (n3 : Int)) with
  | true =>
    go_wp2_with fail
    refine (awake15_calls _).mono ?_
    rintro e wz ⟨rfl, hb⟩
    have HBz := Lib.hid (below_then HB2.out HB2.out.size hb)
    clear hb
    go_wp2
    go_ret
    exact ⟨rfl, HBz.out⟩
  | false =>
  have q300' := of_decide_eq_false q300
  have HT : Hid (Tame js) := Lib.hid ⟨HTm.out, by have := HN.out.1; omega⟩
  have q60' := of_decide_eq_false q60
  have p60' := of_decide_eq_false p60
  have HL := Lib.hid (show n1 ≤ 300 ∧ n2 ≤ 60 ∧ n3 ≤ 60 by omega)
  clear q300' q60' p60'
  have HCp := Lib.hid (show Calls Try.prog 9 #[.agg cs] w2 fun e w' => ∃ B0 d0 B1 d1 B2 d2 B3 d3, e = .returned (.agg (cfgV B0 m0 d0 B1 m1 d1 B2 n2 d2 B3 n3 d3 pl)) ∧ (Kd.C (Kd.int .i64) w' B0 l0.length l0 ∧ l0.length ≤ d0 ∧ Kd.C k87 w' B1 l1.length l1 ∧ l1.length ≤ d1 ∧ Kd.C k57 w' B2 ac.length ac ∧ ac.length ≤ d2 ∧ Kd.C k59 w' B3 q.length q ∧ q.length ≤ d3) ∧ Below w2.heap.size w2 w' by
    rw [HCS.out, HN.out.2.1, HN.out.2.2.1, HN.out.2.2.2.1, HN.out.2.2.2.2]
    refine (copyCfg_calls HM.out A0 c0 A1 c1 A2 c2 A3 c3 pl w2 (Kd.C_below HC0.out HB2.out) HC1.out (Kd.C_below HC2.out HB2.out) HC3.out (Kd.C_below HC4.out HB2.out) HC5.out (Kd.C_below HC6.out HB2.out) HC7.out).mono ?_
    rintro e w' ⟨B0, d0, B1, d1, B2, d2, B3, d3, he, k0, k1, k2, k3, k4, k5, k6, k7, hb⟩
    exact ⟨B0, d0, B1, d1, B2, d2, B3, d3, he, ⟨k0, k1, k2, k3, k4, k5, k6, k7⟩, hb⟩)
  go_wp2_with (first | ((with_reducible refine gate_ (.load 28 (.tmp 3)) rfl ?_); refine wl_load 28 (.tmp 3) rfl rfl _ (.agg cs) rfl (cs_ld (by rw [HCS.out]; rfl) HG2.out) ?_) | fail)
  refine HCp.out.mono ?_
  rintro e w3 ⟨B0, d0, B1, d1, B2, d2, B3, d3, rfl, hK2, hb⟩
  obtain ⟨cs2, hcs2⟩ : ∃ cs, cs = cfgV B0 m0 d0 B1 m1 d1 B2 n2 d2 B3 n3 d3 pl := ⟨_, rfl⟩
  rw [← hcs2]
  have HCS2 := Lib.hid hcs2
  have HK2 := Lib.hid hK2
  have HG3 := Lib.hid (blk_below HG2.out hb)
  have HH3 := Lib.hid (blk_below HH2.out hb)
  have HB3 := Lib.hid (below_then HB2.out HB2.out.size hb)
  clear hb HG2 HH2 HB2 HCp hcs2 hK2 a2 a3
  have HCj := Lib.hid (show Calls Try.prog 10 #[.slice A n1 c] w3 fun e w' => ∃ A' c', e = .returned (.slice A' n1 c') ∧ Kd.R k53 53 w' w3.heap.size (fun _ => True) (.slice A' n1 c') js ∧ Below w3.heap.size w3 w' by
    rw [HN.out.1]
    exact copyJ_calls js HT.out.2 HJ.out.2.2 A c w3 (Kd.C_below HJ.out.1 HB3.out) HJ.out.2.1)
  go_wp2_with fail
  refine HCj.out.mono ?_
  rintro e w4 ⟨A9, c9, rfl, hR, hb⟩
  have HJ2 : Hid (Kd.C k53 w4 A9 js.length js ∧ js.length ≤ c9) := Lib.hid (by
    obtain ⟨A', c', e, h1, h2⟩ := Kd.R_reads hR
    injection e with e1 _ e2
    subst e1 e2
    exact ⟨h2, h1⟩)
  have HK4 := Lib.hid (show Kd.C (Kd.int .i64) w4 B0 l0.length l0 ∧ Kd.C k87 w4 B1 l1.length l1 ∧ Kd.C k57 w4 B2 ac.length ac ∧ Kd.C k59 w4 B3 q.length q from ⟨Kd.C_below HK2.out.1 hb, Kd.C_below HK2.out.2.2.1 hb, Kd.C_below HK2.out.2.2.2.2.1 hb, Kd.C_below HK2.out.2.2.2.2.2.2.1 hb⟩)
  have HG4 := Lib.hid (blk_below HG3.out hb)
  have HH4 := Lib.hid (blk_below HH3.out hb)
  have HB4 := Lib.hid (below_then HB3.out HB3.out.size hb)
  clear hb HG3 HH3 HB3 HCj hR
  have HZ : Hid (((w4.alloc (.cells #[.slice none 0 0, .slice none 0 0, .slice none 0 0, .slice none 0 0, .int .u8 0] 28)).heap[w4.heap.size]? = some (.cells #[.slice none 0 0, .slice none 0 0, .slice none 0 0, .slice none 0 0, .int .u8 0] 28 (0, 0)))) := Lib.hid (heap_alloc_new w4 _)
  have HT5 : Hid (TB w w4 g w4.heap.size cs cs2 sp ((w4.alloc (.cells #[.slice none 0 0, .slice none 0 0, .slice none 0 0, .slice none 0 0, .int .u8 0] 28)).setRow w4.heap.size cs2)) := Lib.hid (by
    have l3 := blk_lt HG4.out
    have l5 := blk_lt HH4.out
    have hs := HB4.out.size
    exact ⟨(setRow_other _ _ _ _ (by omega)).trans (blk_alloc HG4.out _), (setRow_other _ _ _ _ (by omega)).trans (blk_alloc HH4.out _), setRow_heap _ _ _ _ _ _ HZ.out, below_setRow (below_alloc HB4.out _) hs _, below_setRow (below_alloc (Below.refl _ _) _) (Nat.le_refl _) _⟩)
  go_upto_region 4 with (first | ((with_reducible refine gate_store (t := 28) (p := 7) rfl ?_); refine wl_store (old := #[.slice none 0 0, .slice none 0 0, .slice none 0 0, .slice none 0 0, .int .u8 0]) (cells := cs2) 28 (.tmp 7) (.tmp 44) rfl rfl rfl rfl HZ.out (by rw [HCS2.out]; exact infoCfg) (by rw [HCS2.out]; rfl) (by rw [HCS2.out]; simp [Value.oneCell', cfgV]) ?_) | fail)
  generalize World.setRow _ _ _ = w5 at HT5 ⊢
  obtain ⟨g7, hg7⟩ : ∃ g, g = w4.heap.size := ⟨_, rfl⟩
  rw [← hg7] at HT5 ⊢
  clear hg7 HZ HG4 HH4 HB4
  have HCf1 := Lib.hid (fun W (h : TB w w4 g g7 cs cs2 sp W) => show Cfg W cs q ac from ⟨A0, c0, l0, A1, c1, l1, A2, c2, A3, c3, pl, by rw [HCS.out, HN.out.2.1, HN.out.2.2.1, HN.out.2.2.2.1, HN.out.2.2.2.2], Kd.C_below HC0.out h.bel, HC1.out, Kd.C_below HC2.out h.bel, HC3.out, Kd.C_below HC4.out h.bel, HC5.out, Kd.C_below HC6.out h.bel, HC7.out⟩)
  have HCf2 := Lib.hid (fun W (h : TB w w4 g g7 cs cs2 sp W) => show Cfg W cs2 q ac from ⟨B0, d0, l0, B1, d1, l1, B2, d2, B3, d3, pl, by rw [HCS2.out, HN.out.2.1, HN.out.2.2.1, HN.out.2.2.2.1, HN.out.2.2.2.2], Kd.C_below HK4.out.1 h.bel4, HK2.out.2.1, Kd.C_below HK4.out.2.1 h.bel4, HK2.out.2.2.2.1, Kd.C_below HK4.out.2.2.1 h.bel4, HK2.out.2.2.2.2.2.1, Kd.C_below HK4.out.2.2.2 h.bel4, HK2.out.2.2.2.2.2.2.2⟩)
  have has : ac.length < 9000000000000000000 := by have := HM.out.a; omega
  have HSm : Hid (Small ac) := Lib.hid (mild_small HMd.out (by have := HL.out; have := HN.out; omega))
  have HL7 := Lib.hid (fun W (h : TB w w4 g g7 cs cs2 sp W) => cs_ld (by rw [HCS2.out]; rfl) h.b7)
  have HL3 := Lib.hid (fun W (h : TB w w4 g g7 cs cs2 sp W) => cs_ld (by rw [HCS.out]; rfl) h.b3)
  have HL5 := Lib.hid (fun W (h : TB w w4 g g7 cs cs2 sp W) => show (Instr.loadAt 32 (.pointer (some ⟨g + 1, 0, none⟩))).run Try.prog W = .ok (.agg sp) W by rw [HSP.out]; exact specT_ld (by rw [← HSP.out]; exact h.b5))
  obtain ⟨⟨ca, ce⟩, hce⟩ : ∃ r, r = coresQ q ac js s.f1 := ⟨_, rfl⟩
  obtain ⟨⟨qa, qb, qe⟩, hqe⟩ : ∃ r, r = qosQ q ac js s.f2 := ⟨_, rfl⟩
  have HCi := Lib.hid (fun W (h : TB w w4 g g7 cs cs2 sp W) => cores_calls (HCf2.out W h) has js A9 c9 s.f1 (Kd.C_below HJ2.out.1 h.bel4) HJ2.out.2 HT.out)
  have HCr := Lib.hid (fun W (h : TB w w4 g g7 cs cs2 sp W) => refCoresQ_calls (HCf1.out W h) HMd.out HSm.out js A c n1 HN.out.1 s.f1 (Kd.C_below HJ.out.1 h.bel) HJ.out.2.1 HT.out)
  have HQi := Lib.hid (fun W (h : TB w w4 g g7 cs cs2 sp W) => qos_calls (HCf2.out W h) js A9 c9 s.f2 (Kd.C_below HJ2.out.1 h.bel4) HJ2.out.2 HT.out)
  have HQr := Lib.hid (fun W (h : TB w w4 g g7 cs cs2 sp W) => refQosQ_calls (HCf1.out W h) HMd.out js A c n1 HN.out.1 s.f2 (Kd.C_below HJ.out.1 h.bel) HJ.out.2.1 HT.out)
  have HRi := Lib.hid (fun W (h : TB w w4 g g7 cs cs2 sp W) => cright_calls (HCf2.out W h))
  have HRc := Lib.hid (fun W (h : TB w w4 g g7 cs cs2 sp W) => refRightQ_calls (HCf1.out W h) (mildQ_iff.1 HMd.out))
  have HMi := Lib.hid (fun W (h : TB w w4 g g7 cs cs2 sp W) => cmay_calls (HCf2.out W h) has js A9 c9 (Kd.C_below HJ2.out.1 h.bel4) HJ2.out.2 HT.out s HTS.out A7 c7 (Kd.C_below HSp.out.1 h.bel) HSp.out.2)
  have HMc := Lib.hid (fun W (h : TB w w4 g g7 cs cs2 sp W) => refMay_calls (HCf1.out W h) HMd.out HSm.out js A c n1 HN.out.1 (Kd.C_below HJ.out.1 h.bel) HJ.out.2.1 HT.out s HTS.out A7 c7 s.f7.length)
  have HSC := Lib.hid (fun W (h : TB w w4 g g7 cs cs2 sp W) => show Calls Try.prog 19 #[.agg cs2, .agg cs] W fun e w' => e = .returned (.bool true) ∧ Below W.heap.size W w' by
    rw [HCS.out, HCS2.out]
    exact sameCfg_calls HM.out B0 d0 B1 d1 B2 d2 B3 d3 A0 c0 A1 c1 A2 c2 A3 c3 pl W (Kd.C_below HK4.out.1 h.bel4) HK2.out.2.1 (Kd.C_below HK4.out.2.1 h.bel4) HK2.out.2.2.2.1 (Kd.C_below HK4.out.2.2.1 h.bel4) HK2.out.2.2.2.2.2.1 (Kd.C_below HK4.out.2.2.2 h.bel4) HK2.out.2.2.2.2.2.2.2 (Kd.C_below HC0.out h.bel) HC1.out (Kd.C_below HC2.out h.bel) HC3.out (Kd.C_below HC4.out h.bel) HC5.out (Kd.C_below HC6.out h.bel) HC7.out HN.out.2.1 HN.out.2.2.1 HN.out.2.2.2.1 HN.out.2.2.2.2)
  have HSJ := Lib.hid (fun W (h : TB w w4 g g7 cs cs2 sp W) => sameJobs_calls js (by rw [← HN.out.1]; exact hT) HJ.out.2.2 A9 c9 A c n1 HN.out.1 W (Kd.C_below HJ2.out.1 h.bel4) (Kd.C_below HJ.out.1 h.bel))
  rw [← hce, ← HN.out.1] at HCi
  rw [← hce] at HCr
  rw [← hqe, ← HN.out.1] at HQi
  rw [← hqe] at HQr
  rw [← HN.out.1] at HMi
  unfold specC at HSP
  unfold specC at HMi
  rw [← HSP.out] at HMi HMc
  obtain ⟨ma, hma⟩ : ∃ m, m = mayQ q ac js s := ⟨_, rfl⟩
  obtain ⟨ra, hra⟩ : ∃ m, m = rightQ q ac := ⟨_, rfl⟩
  rw [← hma] at HMi HMc
  rw [← hra] at HRi HRc
  clear hma hra hce hqe has
  have x1 : w5.cell? ⟨g + 1, 1, none⟩ = some (.string s.f1) := (blk_cell HT5.out.b5 1).trans (by rw [HSP.out]; rfl)
  go_wp2_with (first | ((with_reducible refine gate_ (.load 28 (.tmp 7)) rfl ?_); refine wl_load 28 (.tmp 7) rfl rfl _ (.agg cs2) rfl (HL7.out _ HT5.out) ?_) | fail)
  refine (HCi.out _ HT5.out).mono ?_
  rintro e w6 ⟨rfl, hb⟩
  have HT6 := Lib.hid (HT5.out.keep hb)
  clear hb x1 HT5
  have x1 : w6.cell? ⟨g + 1, 1, none⟩ = some (.string s.f1) := (blk_cell HT6.out.b5 1).trans (by rw [HSP.out]; rfl)
  go_wp2_with (first | ((with_reducible refine gate_ (.load 28 (.tmp 3)) rfl ?_); refine wl_load 28 (.tmp 3) rfl rfl _ (.agg cs) rfl (HL3.out _ HT6.out) ?_) | fail)
  refine (HCr.out _ HT6.out).mono ?_
  rintro e w7 ⟨rfl, hb⟩
  have HT7 := Lib.hid (HT6.out.keep hb)
  clear hb x1 HT6
  have x1 : w7.cell? ⟨g + 1, 2, none⟩ = some (.string s.f2) := (blk_cell HT7.out.b5 2).trans (by rw [HSP.out]; rfl)
  go_wp2_with (first | ((with_reducible refine gate_ (.load 28 (.tmp 7)) rfl ?_); refine wl_load 28 (.tmp 7) rfl rfl _ (.agg cs2) rfl (HL7.out _ HT7.out) ?_) | fail)
  refine (HQi.out _ HT7.out).mono ?_
  rintro e w8 ⟨rfl, hb⟩
  have HT8 := Lib.hid (HT7.out.keep hb)
  clear hb x1 HT7
  have x1 : w8.cell? ⟨g + 1, 2, none⟩ = some (.string s.f2) := (blk_cell HT8.out.b5 2).trans (by rw [HSP.out]; rfl)
  go_wp2_with (first | ((with_reducible refine gate_ (.load 28 (.tmp 3)) rfl ?_); refine wl_load 28 (.tmp 3) rfl rfl _ (.agg cs) rfl (HL3.out _ HT8.out) ?_) | fail)
  refine (HQr.out _ HT8.out).mono ?_
  rintro e w9 ⟨rfl, hb⟩
  have HT9 := Lib.hid (HT8.out.keep hb)
  clear hb x1 HT8
  have HD := Lib.hid (HT9.out.keep (below_drew1 (Below.refl _ _)))
  clear HT9
  go_upto_region 8 with (fail)
  refine start_ (n := 41) (S := fun w' => (Instr.loadAt 28 (.pointer (some ⟨g7, 0, none⟩))).run Try.prog w' = .ok (.agg cs2) w' ∧ (Instr.loadAt 28 (.pointer (some ⟨g, 0, none⟩))).run Try.prog w' = .ok (.agg cs) w' ∧ (Instr.loadAt 32 (.pointer (some ⟨g + 1, 0, none⟩))).run Try.prog w' = .ok (.agg sp) w') (ds := []) (lk 41 0) (by kernel_rfl) rfl rfl ⟨HL7.out _ HD.out, HL3.out _ HD.out, HL5.out _ HD.out⟩ (fun hHeld => ?_)
  refine with_tabW quotaTells8.tab8 quotaTells8.bits8 (fun HT_ HW_ => ?_)
  refine pu (i := 0) (N := some 81) (lk 41 1) ?_
  refine pu (i := 1) (N := some 82) (lk 41 3) ?_
  refine pu (i := 2) (N := some 83) (lk 41 7) ?_
  refine pu (i := 3) (N := some 84) (lk 41 15) ?_
  refine pu (i := 4) (N := some 85) (lk 41 31) ?_
  refine pu (i := 5) (N := some 86) (lk 41 63) ?_
  refine pu (i := 6) (N := some 87) (lk 41 127) ?_
  refine pu (i := 7) (N := some 88) (lk 41 255) ?_
  refine pu (i := 8) (N := some 89) (lk 41 511) ?_
  refine pu (i := 9) (N := some 90) (lk 41 1023) ?_
  refine pu (i := 10) (N := some 91) (lk 41 2047) ?_
  refine pu (i := 11) (N := some 92) (lk 41 4095) ?_
  refine pu (i := 12) (N := some 93) (lk 41 8191) ?_
  refine pu (i := 13) (N := some 94) (lk 41 16383) ?_
  refine pu (i := 14) (N := some 95) (lk 41 32767) ?_
  refine pu (i := 15) (N := some 96) (lk 41 65535) ?_
  refine pu (i := 16) (N := some 97) (lk 41 131071) ?_
  refine pu (i := 17) (N := some 98) (lk 41 262143) ?_
  refine pu (i := 18) (N := some 99) (lk 41 524287) ?_
  refine pu (i := 19) (N := some 100) (lk 41 1048575) ?_
  refine pu (i := 20) (N := some 101) (lk 41 2097151) ?_
  refine pu (i := 21) (N := some 102) (lk 41 4194303) ?_
  refine pu (i := 22) (N := some 103) (lk 41 8388607) ?_
  refine pu (i := 23) (N := some 104) (lk 41 16777215) ?_
  refine take_ (i := 24) (N := some 105) (v := ?_) (a' := ?_) (lk 41 33554431) rfl rfl (take_ofW HT_.out HW_.out (by kernel_rfl)) (fun _ _ _ h => h) (Or.inl ⟨by rfl, ?_⟩) hHeld ?_ ?_
  rotate_left
  · rintro w' ⟨s0, s1, s2⟩
    refine Eq.trans (exec_loadC (by rfl) (by rfl) s0) ?_
    with_reducible rfl
  rotate_left
  · simp only [Act.put, List.setIfInBounds_toArray, List.set_cons_zero, List.set_cons_succ, i64_w, i32_w]
    rfl
  refine take_ (i := 26) (N := some 107) (v := ?_) (a' := ?_) (lk 41 100663295) rfl rfl (take_ofW HT_.out HW_.out (by kernel_rfl)) (fun _ _ _ h => h) (Or.inl ⟨by rfl, ?_⟩) hHeld ?_ ?_
  rotate_left
  · rintro w' ⟨s0, s1, s2⟩
    refine Eq.trans (exec_loadC (by rfl) (by rfl) s1) ?_
    with_reducible rfl
  rotate_left
  · simp only [Act.put, List.setIfInBounds_toArray, List.set_cons_zero, List.set_cons_succ, i64_w, i32_w]
    rfl
  refine on1 (i := 25) (N := some 106) (lk 41 134217727) (fun K hK => ?_)
  refine goes_ Try.func15 (by kernel_rfl) rfl #[.agg cs2] (by rfl) rfl rfl (by simp only [List.map_toArray, List.map_cons, List.map_nil]; rfl) ?_
  with_reducible refine (HRi.out _ HD.out).mono ?_
  rintro e V1 ⟨rfl, hb⟩
  refine ⟨_, rfl, ?_⟩
  have HD1 := Lib.hid (HD.out.keep hb)
  clear hb
  refine hK.out _ _ ⟨HL7.out _ HD1.out, HL3.out _ HD1.out, HL5.out _ HD1.out⟩ (fun hHeld => ?_)
  clear hK K
  refine nm (some 106) ?_
  refine on1 (i := 27) (N := some 108) (lk 41 268435455) (fun K hK => ?_)
  refine goes_ Try.func16 (by kernel_rfl) rfl #[.agg cs] (by rfl) rfl rfl (by simp only [List.map_toArray, List.map_cons, List.map_nil]; rfl) ?_
  with_reducible refine (HRc.out _ HD1.out).mono ?_
  rintro e V2 ⟨rfl, hb⟩
  refine ⟨_, rfl, ?_⟩
  have HD2 := Lib.hid (HD1.out.keep hb)
  clear hb
  refine hK.out _ _ ⟨HL7.out _ HD2.out, HL3.out _ HD2.out, HL5.out _ HD2.out⟩ (fun hHeld => ?_)
  clear hK K
  refine nm (some 108) ?_
  refine pu (i := 28) (N := some 109) (lk 41 536870911) ?_
  refine pu (i := 29) (N := some 110) (lk 41 1073741823) ?_
  refine pu (i := 30) (N := some 111) (lk 41 2147483647) ?_
  refine pu (i := 32) (N := some 113) (lk 41 6442450943) ?_
  refine pu (i := 36) (N := some 117) (lk 41 75161927679) ?_
  refine take_ (i := 31) (N := some 112) (v := ?_) (a' := ?_) (lk 41 77309411327) rfl rfl (take_ofW HT_.out HW_.out (by kernel_rfl)) (fun _ _ _ h => h) (Or.inl ⟨by rfl, ?_⟩) hHeld ?_ ?_
  rotate_left
  · rintro w' ⟨s0, s1, s2⟩
    refine Eq.trans (exec_loadC (by rfl) (by rfl) s0) ?_
    with_reducible rfl
  rotate_left
  · simp only [Act.put, List.setIfInBounds_toArray, List.set_cons_zero, List.set_cons_succ, i64_w, i32_w]
    rfl
  refine take_ (i := 33) (N := some 114) (v := ?_) (a' := ?_) (lk 41 85899345919) rfl rfl (take_ofW HT_.out HW_.out (by kernel_rfl)) (fun _ _ _ h => h) (Or.inl ⟨by rfl, ?_⟩) hHeld ?_ ?_
  rotate_left
  · rintro w' ⟨s0, s1, s2⟩
    refine Eq.trans (exec_loadC (by rfl) (by rfl) s2) ?_
    with_reducible rfl
  rotate_left
  · simp only [Act.put, List.setIfInBounds_toArray, List.set_cons_zero, List.set_cons_succ, i64_w, i32_w]
    rfl
  refine take_ (i := 35) (N := some 116) (v := ?_) (a' := ?_) (lk 41 120259084287) rfl rfl (take_ofW HT_.out HW_.out (by kernel_rfl)) (fun _ _ _ h => h) (Or.inl ⟨by rfl, ?_⟩) hHeld ?_ ?_
  rotate_left
  · rintro w' ⟨s0, s1, s2⟩
    refine Eq.trans (exec_loadC (by rfl) (by rfl) s1) ?_
    with_reducible rfl
  rotate_left
  · simp only [Act.put, List.setIfInBounds_toArray, List.set_cons_zero, List.set_cons_succ, i64_w, i32_w]
    rfl
  refine take_ (i := 37) (N := some 118) (v := ?_) (a' := ?_) (lk 41 257698037759) rfl rfl (take_ofW HT_.out HW_.out (by kernel_rfl)) (fun _ _ _ h => h) (Or.inl ⟨by rfl, ?_⟩) hHeld ?_ ?_
  rotate_left
  · rintro w' ⟨s0, s1, s2⟩
    refine Eq.trans (exec_loadC (by rfl) (by rfl) s2) ?_
    with_reducible rfl
  rotate_left
  · simp only [Act.put, List.setIfInBounds_toArray, List.set_cons_zero, List.set_cons_succ, i64_w, i32_w]
    rfl
  refine on1 (i := 34) (N := some 115) (lk 41 274877906943) (fun K hK => ?_)
  refine goes_ Try.func17 (by kernel_rfl) rfl #[.agg cs2, .slice A9 n1 c9, .agg sp] (by rfl) rfl rfl (by simp only [List.map_toArray, List.map_cons, List.map_nil]; rfl) ?_
  with_reducible refine (HMi.out _ HD2.out).mono ?_
  rintro e V3 ⟨rfl, hb⟩
  refine ⟨_, rfl, ?_⟩
  have HD3 := Lib.hid (HD2.out.keep hb)
  clear hb
  refine hK.out _ _ ⟨HL7.out _ HD3.out, HL3.out _ HD3.out, HL5.out _ HD3.out⟩ (fun hHeld => ?_)
  clear hK K
  refine nm (some 115) ?_
  refine on1 (i := 38) (N := some 119) (lk 41 549755813887) (fun K hK => ?_)
  refine goes_ Try.func18 (by kernel_rfl) rfl #[.agg cs, .slice A n1 c, .agg sp] (by rfl) rfl rfl (by simp only [List.map_toArray, List.map_cons, List.map_nil]; rfl) ?_
  with_reducible refine (HMc.out _ HD3.out).mono ?_
  rintro e V4 ⟨rfl, hb⟩
  refine ⟨_, rfl, ?_⟩
  have HD4 := Lib.hid (HD3.out.keep hb)
  clear hb
  refine hK.out _ _ ⟨HL7.out _ HD4.out, HL3.out _ HD4.out, HL5.out _ HD4.out⟩ (fun hHeld => ?_)
  clear hK K
  refine nm (some 119) ?_
  refine pu (i := 39) (N := some 120) (lk 41 1099511627775) ?_
  refine pu (i := 40) (N := some 121) (lk 41 2199023255551) ?_
  refine done_ (done_of HT_.out (by kernel_rfl)) ?_
  
  go_wp2_with (first | ((with_reducible refine gate_ (.load 28 (.tmp 7)) rfl ?_); refine wl_load 28 (.tmp 7) rfl rfl _ (.agg cs2) rfl (HL7.out _ HD4.out) ?_) | ((with_reducible refine gate_ (.load 28 (.tmp 3)) rfl ?_); refine wl_load 28 (.tmp 3) rfl rfl _ (.agg cs) rfl (HL3.out _ HD4.out) ?_) | fail)
  refine (HSC.out _ HD4.out).mono ?_
  rintro e v5 ⟨rfl, hb⟩
  have HD5 := Lib.hid (HD4.out.keep hb)
  clear hb
  go_wp2_with fail
  refine (HSJ.out _ HD5.out).mono ?_
  rintro e v6 ⟨rfl, hb⟩
  have HD6 := Lib.hid (HD5.out.keep hb)
  clear hb
  go_wp2_with fail
  refine (awake15_calls _).mono ?_
  rintro e v7 ⟨rfl, hb⟩
  have HD7 := Lib.hid (HD6.out.keep hb)
  clear hb
  go_wp2
  go_ret
  exact ⟨rfl, HD7.out.bel⟩
end Go.Proofs.Ytcnobkcddgcifaa.PT
/- A parameter of any kind (numbers, bools, strings, slices, structs, arrays of these) opened into the words' kinds, with its sizes. -/
set_option linter.unusedVariables false
set_option linter.unusedSimpArgs false
namespace Go.Proofs.Ytcnobkcddgcifaa.Open
open Go.RowKit Go.Deep Go.Proofs.YtcnobkcddgcifaaW.PrintWords

structure Opens {α : Type} (P : Program) (G : α → Prop) (d : Kd α) (t : TypeId) : Prop where
  cells : P.cellsOf t = d.sz
  opened : ∀ {H : Type} {enc : TypeId × Value → H} {w : World} {base : Nat} {spare : Nat → Bool} {held : Bool} {fuel : Nat} {cs : List Value} {x : DataW H × List MemPlace},
    DataW.trod enc P w base spare held fuel t cs = some x → (∀ n ∈ x.1.weights P t, n ≤ reachBytes) → ∃ a : α, d.K w a cs ∧ G a
/-- Fields in line, from an offset on. -/
structure OpensF {α : Type} (P : Program) (G : α → Prop) (d : Kd α) (fs : List Field) (off : Nat) : Prop where
  opened : ∀ {H : Type} {enc : TypeId × Value → H} {w : World} {base : Nat} {spare : Nat → Bool} {held : Bool} {fuel : Nat} {cs : List Value} {xs : List (DataW H × List MemPlace)},
    cs.length = off + d.sz → xs.length = fs.length → (∀ (i : Nat) (f : Field), fs[i]? = some f → DataW.trod enc P w base spare held fuel f.type ((cs.drop f.offset).take (P.cellsOf f.type)) = xs[i]?) →
    (∀ n ∈ DataW.weightsEach P (fs.map (·.type)) (xs.map (·.1)), n ≤ reachBytes) → ∃ a : α, d.K w a (cs.drop off) ∧ G a

section
variable {P : Program} {t : TypeId}
theorem o_int {k : IntKind} (ht : P.underlying t = some (.int k)) (hc : P.cellsOf t = 1) : Opens P (fun x => (Lit.int k x).wf = true) (Kd.int k) t where
  cells := hc
  opened h _ := by
    obtain ⟨n, rfl, _, hw⟩ := DataW.trod_int ht h
    exact ⟨n, rfl, hw⟩
theorem o_string (ht : P.underlying t = some .string) (hc : P.cellsOf t = 1) : Opens P (fun s : ByteArray => s.size ≤ 140737488351232) Kd.string t where
  cells := hc
  opened h hw := by
    obtain ⟨s, rfl, rfl, _⟩ := DataW.trod_string ht h
    refine ⟨s, rfl, ?_⟩
    have := hw s.data.toList.length (by simp [DataW.weights])
    rw [Array.length_toList] at this
    exact this
theorem weightsAll_mem {H : Type} {e : TypeId} : ∀ {l : List (DataW H)} {d : DataW H}, d ∈ l → ∀ n ∈ d.weights P e, n ∈ DataW.weightsAll P e l
  | x :: l, d, hd, n, hn => by
    rw [DataW.weightsAll]
    rcases List.mem_cons.1 hd with rfl | hd
    · exact List.mem_append_left _ hn
    · exact List.mem_append_right _ (weightsAll_mem hd n hn)
theorem o_slice {α : Type} {G : α → Prop} {d : Kd α} {e : TypeId} (ht : P.underlying t = some (.slice e)) (hc : P.cellsOf t = 1) (B : Nat) (hB : P.bytesOf e = B) (O : Opens P G d e) [Inhabited α] :
    Opens P (fun l : List α => l.length * B ≤ 140737488351232 ∧ ∀ x ∈ l, G x) (Kd.slice e d) t where
  cells := hc
  opened {H enc w base spare held fuel cs x} h hw := by
    rcases open_slice ht h with ⟨rfl, rfl⟩ | ⟨a, len, cap, m, n, D, Pl, rfl, hb, hl, hm, hmm, rfl, hx⟩
    · exact ⟨[], ⟨none, 0, rfl, Nat.le_refl _, rfl, Nat.zero_le _, fun h => absurd h (Nat.lt_irrefl _)⟩, by simp, fun x hx => by cases hx⟩
    · have hlm : len ≤ m := by rw [hmm]; split <;> omega
      rw [DataW.weights, ht] at hw
      simp only at hw
      have hex : ∀ i, i < len → ∃ y : α, ∃ c : List Value, c.length = d.sz ∧ d.K w y c ∧ G y ∧ ∀ j u, c[j]? = some u → w.cell? (a.add (i * d.sz + j)) = some u := by
        intro i hi
        obtain ⟨cs', h1, h2⟩ := hx i (by omega)
        obtain ⟨_, h3, h4⟩ := World.cells?_some h1
        obtain ⟨y, hK, hG⟩ := O.opened h2 (fun n hn => hw n (List.mem_cons_of_mem _ (List.mem_append_left _ (weightsAll_mem (List.mem_map.2 ⟨i, List.mem_range.2 hi, rfl⟩) n hn))))
        refine ⟨y, cs', by rw [h3, O.cells], hK, hG, fun j u hj => ?_⟩
        have hjl : j < P.cellsOf e := by
          have := (List.getElem?_eq_some_iff.1 hj).1
          omega
        have := h4 j hjl
        rw [Deep.add_add, O.cells] at this
        rw [this, hj]
      obtain ⟨Y, hY⟩ := choose_lt hex
      have hget : ∀ (j : Nat) (p : α), ((List.range len).map Y)[j]? = some p → j < len ∧ p = Y j := by
        intro j p hp
        rw [List.getElem?_map] at hp
        by_cases hj : j < len
        · rw [List.getElem?_range hj] at hp
          exact ⟨hj, (Option.some.inj hp).symm⟩
        · rw [List.getElem?_eq_none (by simpa using hj)] at hp
          cases hp
      refine ⟨(List.range len).map Y, ⟨some a, cap, by simp, by simpa using hl, ?_⟩, ?_, ?_⟩
      · refine ⟨rfl, ?_, fun _ => ⟨a, rfl, fun j p hp => ?_⟩⟩
        · have : maxLen ≤ 9223372036854775807 := by decide
          simp only [List.length_map, List.length_range]
          omega
        · obtain ⟨hj, rfl⟩ := hget j p hp
          obtain ⟨c, h1, h2, _, h4⟩ := hY j hj
          exact ⟨c, h1, h2, h4⟩
      · have h5 := hw _ List.mem_cons_self
        rw [hB] at h5
        simp only [List.length_map, List.length_range] at h5 ⊢
        have h6 : len * B ≤ (len + (m - len)) * B := Nat.mul_le_mul_right _ (by omega)
        have h7 : reachBytes = 140737488351232 := by decide
        omega
      · intro x hx
        obtain ⟨i, hi, rfl⟩ := List.mem_map.1 hx
        exact (hY i (List.mem_range.1 hi)).elim fun _ h => h.2.2.1
/-- The last field. -/
theorem o_last {α : Type} {G : α → Prop} {d : Kd α} {f : Field} {off : Nat} (ho : f.offset = off) (O : Opens P G d f.type) : OpensF P G d [f] off where
  opened {H enc w base spare held fuel cs xs} hl hx hf hw := by
    match xs, hx with
    | [x], _ =>
      have h := hf 0 f rfl
      rw [ho, O.cells, List.take_of_length_le (by rw [List.length_drop]; omega)] at h
      exact O.opened h (fun n hn => hw n (by simp [DataW.weightsEach]; exact hn))
theorem o_field {α β : Type} {G : α → Prop} {d : Kd α} {G2 : β → Prop} {d2 : Kd β} {f : Field} {fs : List Field} {off : Nat} (ho : f.offset = off) (O : Opens P G d f.type) (F : OpensF P G2 d2 fs (off + d.sz)) :
    OpensF P (fun x : α × β => G x.1 ∧ G2 x.2) (Kd.pair d d2) (f :: fs) off where
  opened {H enc w base spare held fuel cs xs} hl hx hf hw := by
    match xs, hx with
    | x :: xs, hx =>
      have hl' : cs.length = off + (d.sz + d2.sz) := hl
      have h := hf 0 f rfl
      rw [ho, O.cells] at h
      obtain ⟨a, hK, hG⟩ := O.opened h (fun n hn => hw n (by simp only [List.map_cons, DataW.weightsEach]; exact List.mem_append_left _ hn))
      obtain ⟨b, hK2, hG2⟩ := F.opened (cs := cs) (xs := xs) (by omega) (by simpa using hx) (fun i g hg => hf (i + 1) g hg) (fun n hn => hw n (by simp only [List.map_cons, DataW.weightsEach]; exact List.mem_append_right _ hn))
      refine ⟨(a, b), ⟨_, _, ?_, hK, hK2⟩, hG, hG2⟩
      rw [← List.drop_drop, List.take_append_drop]
theorem o_struct {α : Type} {G : α → Prop} {d : Kd α} {fs : Array Field} (ht : P.underlying t = some (.struct fs)) (hc : P.cellsOf t = d.sz) (l : List Field) (hl : fs.toList = l) (F : OpensF P G d l 0) : Opens P G d t where
  cells := hc
  opened {H enc w base spare held fuel cs x} h hw := by
    obtain ⟨xs, n, _, rfl, hcl, hxl, hf⟩ := DataW.trod_struct ht h
    rw [DataW.weights, ht] at hw
    simp only at hw
    subst hl
    obtain ⟨a, hK, hG⟩ := F.opened (cs := cs) (xs := xs) (by omega) (by simpa using hxl) (fun i f hi => hf i f (by rw [← Array.getElem?_toList]; exact hi)) hw
    exact ⟨a, by rwa [List.drop_zero] at hK, hG⟩
theorem o_iso {α β : Type} {G : α → Prop} {d : Kd α} (f : β → α) (g : α → β) (hg : ∀ a, f (g a) = a) (O : Opens P G d t) : Opens P (fun b => G (f b)) (Kd.iso d f) t where
  cells := O.cells
  opened h hw := by
    obtain ⟨a, hK, hG⟩ := O.opened h hw
    exact ⟨g a, by show d.K _ (f (g a)) _; rwa [hg], by show G (f (g a)); rwa [hg]⟩
end
/-- A whole parameter. -/
theorem Opens.arg {α : Type} {P : Program} {G : α → Prop} {d : Kd α} {t : TypeId} (O : Opens P G d t) {H : Type} {enc : TypeId × Value → H} {w : World} {base : Nat} {spare : Nat → Bool} {held : Bool} {v : Value} {x : DataW H} {ps : List MemPlace}
    {ts : List TypeId} {ds : List (DataW H)} {j : Nat} (hsz : (DataW.weightsEach P ts ds).all (· ≤ reachBytes) = true) (ht : ts[j]? = some t) (hd : ds[j]? = some x) (h : DataW.Trod enc P w base spare held t v x ps) : ∃ a : α, d.K w a v.cells.toList ∧ G a := by
  obtain ⟨fuel, hf⟩ := h
  exact O.opened hf (fun n hn => by simpa using List.all_eq_true.1 hsz _ (DataW.weights_mem_each ht hd n hn))
end Go.Proofs.Ytcnobkcddgcifaa.Open
-- printed by mkrow.py
set_option linter.unusedVariables false
namespace Go.Proofs.Ytcnobkcddgcifaa.PT.QuotaTellsOpen
open Go.RowKit Go.Proofs.YtcnobkcddgcifaaW.PrintWords Go.Proofs.Ytcnobkcddgcifaa.Open Go.Proofs.Ytcnobkcddgcifaa.PT
def g87 (x : S87) : Prop := x.f0.size ≤ 140737488351232 ∧ (Lit.int .u32 x.f1).wf = true ∧ (Lit.int .i64 x.f2).wf = true ∧ (Lit.int .i64 x.f3).wf = true ∧ (x.f4.length * 16 ≤ 140737488351232 ∧ ∀ yxf4 ∈ x.f4, yxf4.size ≤ 140737488351232)
instance : Inhabited S87 := ⟨z87⟩
theorem o87 : Opens Try.prog g87 k87 87 := o_iso (fun x : S87 => (x.f0, x.f1, x.f2, x.f3, x.f4)) (fun a => ⟨a.1, a.2.1, a.2.2.1, a.2.2.2.1, a.2.2.2.2⟩) (fun _ => rfl) (o_struct Try.underlying87 (by kernel_rfl) _ rfl (o_field rfl (o_string Try.underlying9 (by kernel_rfl)) (o_field rfl (o_int Try.underlying51 (by kernel_rfl)) (o_field rfl (o_int Try.underlying3 (by kernel_rfl)) (o_field rfl (o_int Try.underlying2 (by kernel_rfl)) (o_last rfl (o_slice Try.underlying70 (by kernel_rfl) 16 (by kernel_rfl) (o_string Try.underlying9 (by kernel_rfl)))))))))
def g57 (x : S57) : Prop := x.f0.size ≤ 140737488351232 ∧ x.f1.size ≤ 140737488351232 ∧ (Lit.int .i64 x.f2).wf = true
instance : Inhabited S57 := ⟨z57⟩
theorem o57 : Opens Try.prog g57 k57 57 := o_iso (fun x : S57 => (x.f0, x.f1, x.f2)) (fun a => ⟨a.1, a.2.1, a.2.2⟩) (fun _ => rfl) (o_struct Try.underlying57 (by kernel_rfl) _ rfl (o_field rfl (o_string Try.underlying9 (by kernel_rfl)) (o_field rfl (o_string Try.underlying9 (by kernel_rfl)) (o_last rfl (o_int Try.underlying3 (by kernel_rfl))))))
def g59 (x : S59) : Prop := x.f0.size ≤ 140737488351232 ∧ (Lit.int .i64 x.f1).wf = true ∧ (Lit.int .i64 x.f2).wf = true ∧ (Lit.int .i64 x.f3).wf = true
instance : Inhabited S59 := ⟨z59⟩
theorem o59 : Opens Try.prog g59 k59 59 := o_iso (fun x : S59 => (x.f0, x.f1, x.f2, x.f3)) (fun a => ⟨a.1, a.2.1, a.2.2.1, a.2.2.2⟩) (fun _ => rfl) (o_struct Try.underlying59 (by kernel_rfl) _ rfl (o_field rfl (o_string Try.underlying9 (by kernel_rfl)) (o_field rfl (o_int Try.underlying3 (by kernel_rfl)) (o_field rfl (o_int Try.underlying3 (by kernel_rfl)) (o_last rfl (o_int Try.underlying3 (by kernel_rfl)))))))
def g28 (x : S28) : Prop := (x.f0.length * 8 ≤ 140737488351232 ∧ ∀ yxf0 ∈ x.f0, (Lit.int .i64 yxf0).wf = true) ∧ (x.f1.length * 64 ≤ 140737488351232 ∧ ∀ yxf1 ∈ x.f1, g87 yxf1) ∧ (x.f2.length * 40 ≤ 140737488351232 ∧ ∀ yxf2 ∈ x.f2, g57 yxf2) ∧ (x.f3.length * 40 ≤ 140737488351232 ∧ ∀ yxf3 ∈ x.f3, g59 yxf3) ∧ (Lit.int .u8 x.f4).wf = true
instance : Inhabited S28 := ⟨z28⟩
theorem o28 : Opens Try.prog g28 k28 28 := o_iso (fun x : S28 => (x.f0, x.f1, x.f2, x.f3, x.f4)) (fun a => ⟨a.1, a.2.1, a.2.2.1, a.2.2.2.1, a.2.2.2.2⟩) (fun _ => rfl) (o_struct Try.underlying28 (by kernel_rfl) _ rfl (o_field rfl (o_slice Try.underlying22 (by kernel_rfl) 8 (by kernel_rfl) (o_int Try.underlying3 (by kernel_rfl))) (o_field rfl (o_slice Try.underlying23 (by kernel_rfl) 64 (by kernel_rfl) o87) (o_field rfl (o_slice Try.underlying24 (by kernel_rfl) 40 (by kernel_rfl) o57) (o_field rfl (o_slice Try.underlying25 (by kernel_rfl) 40 (by kernel_rfl) o59) (o_last rfl (o_int Try.underlying26 (by kernel_rfl))))))))
def g112 (x : S112) : Prop := (Lit.int .u8 x.f0).wf = true ∧ (Lit.int .i64 x.f1).wf = true
instance : Inhabited S112 := ⟨z112⟩
theorem o112 : Opens Try.prog g112 k112 112 := o_iso (fun x : S112 => (x.f0, x.f1)) (fun a => ⟨a.1, a.2⟩) (fun _ => rfl) (o_struct Try.underlying112 (by kernel_rfl) _ rfl (o_field rfl (o_int Try.underlying110 (by kernel_rfl)) (o_last rfl (o_int Try.underlying3 (by kernel_rfl)))))
def g32 (x : S32) : Prop := x.f0.size ≤ 140737488351232 ∧ x.f1.size ≤ 140737488351232 ∧ x.f2.size ≤ 140737488351232 ∧ x.f3.size ≤ 140737488351232 ∧ (Lit.int .i64 x.f4).wf = true ∧ (Lit.int .i64 x.f5).wf = true ∧ (Lit.int .i64 x.f6).wf = true ∧ (x.f7.length * 16 ≤ 140737488351232 ∧ ∀ yxf7 ∈ x.f7, g112 yxf7)
instance : Inhabited S32 := ⟨z32⟩
theorem o32 : Opens Try.prog g32 k32 32 := o_iso (fun x : S32 => (x.f0, x.f1, x.f2, x.f3, x.f4, x.f5, x.f6, x.f7)) (fun a => ⟨a.1, a.2.1, a.2.2.1, a.2.2.2.1, a.2.2.2.2.1, a.2.2.2.2.2.1, a.2.2.2.2.2.2.1, a.2.2.2.2.2.2.2⟩) (fun _ => rfl) (o_struct Try.underlying32 (by kernel_rfl) _ rfl (o_field rfl (o_string Try.underlying9 (by kernel_rfl)) (o_field rfl (o_string Try.underlying9 (by kernel_rfl)) (o_field rfl (o_string Try.underlying9 (by kernel_rfl)) (o_field rfl (o_string Try.underlying9 (by kernel_rfl)) (o_field rfl (o_int Try.underlying3 (by kernel_rfl)) (o_field rfl (o_int Try.underlying3 (by kernel_rfl)) (o_field rfl (o_int Try.underlying2 (by kernel_rfl)) (o_last rfl (o_slice Try.underlying30 (by kernel_rfl) 16 (by kernel_rfl) o112))))))))))
def g53 (x : S53) : Prop := (Lit.int .i64 x.f0).wf = true ∧ (Lit.int .i64 x.f1).wf = true ∧ (Lit.int .i64 x.f2).wf = true ∧ g32 x.f3 ∧ (Lit.int .u8 x.f4).wf = true ∧ (Lit.int .i64 x.f5).wf = true ∧ (Lit.int .i64 x.f6).wf = true ∧ (Lit.int .i64 x.f7).wf = true ∧ (Lit.int .u32 x.f8).wf = true ∧ (Lit.int .i64 x.f9).wf = true
instance : Inhabited S53 := ⟨z53⟩
theorem o53 : Opens Try.prog g53 k53 53 := o_iso (fun x : S53 => (x.f0, x.f1, x.f2, x.f3, x.f4, x.f5, x.f6, x.f7, x.f8, x.f9)) (fun a => ⟨a.1, a.2.1, a.2.2.1, a.2.2.2.1, a.2.2.2.2.1, a.2.2.2.2.2.1, a.2.2.2.2.2.2.1, a.2.2.2.2.2.2.2.1, a.2.2.2.2.2.2.2.2.1, a.2.2.2.2.2.2.2.2.2⟩) (fun _ => rfl) (o_struct Try.underlying53 (by kernel_rfl) _ rfl (o_field rfl (o_int Try.underlying3 (by kernel_rfl)) (o_field rfl (o_int Try.underlying3 (by kernel_rfl)) (o_field rfl (o_int Try.underlying3 (by kernel_rfl)) (o_field rfl o32 (o_field rfl (o_int Try.underlying49 (by kernel_rfl)) (o_field rfl (o_int Try.underlying2 (by kernel_rfl)) (o_field rfl (o_int Try.underlying2 (by kernel_rfl)) (o_field rfl (o_int Try.underlying2 (by kernel_rfl)) (o_field rfl (o_int Try.underlying51 (by kernel_rfl)) (o_last rfl (o_int Try.underlying3 (by kernel_rfl)))))))))))))
end Go.Proofs.Ytcnobkcddgcifaa.PT.QuotaTellsOpen
