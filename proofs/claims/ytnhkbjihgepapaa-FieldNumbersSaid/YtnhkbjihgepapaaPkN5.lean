/- Texts of this claim, laid together: PFx1, PFx4, FdAll, PFx12, PFx13, FdGet, PFx14. -/
import Derived.Deep.MidRow
import Derived.Laws.CopyOwn
import Derived.Laws.Tables
import Derived.Test.YtnhkbjihgepapaaPkN0
import Derived.Test.YtnhkbjihgepapaaPkN1
import Derived.Test.YtnhkbjihgepapaaPkN2
import Derived.Test.YtnhkbjihgepapaaPkN3
import Derived.Test.YtnhkbjihgepapaaPkN4
-- printed by wprint.py (this session's program over the kit's print.py)
namespace Go.Proofs.Ytnhkbjihgepapaa.PF
open Go.RowKit Go.Proofs.YtnhkbjihgepapaaW.PrintWords Go.Proofs.YtnhkbjihgepapaaW.PrintLast Go.Proofs.YtnhkbjihgepapaaW.PrintMore
attribute [local go_sem] max2_int min2_int max_two min_two max_three min_three max_four min_four   -- for this text's walks alone
set_option linter.unusedVariables false
set_option linter.unusedSimpArgs false

/-! ### musterlow_SameNumbers: function 43 -/
def musterlow_SameNumbers.l0 : Nat → List Int → List Int → Int → Option (Bool)
  | 0, _, _, _ => none
  | k + 1, x0, x1, x5 => if x5 < (x0.length : Int) then (if 0 ≤ x5 then (if x5 < (x1.length : Int) then (if (rd x0 x5) = (rd x1 x5) then (musterlow_SameNumbers.l0 k x0 x1 (wrap64 (x5 + 1))) else (some false)) else (none)) else (none)) else (some true)
def musterlow_SameNumbers.f (k : Nat) (l0 : List Int) (l1 : List Int) : Option (Bool) := if (l0.length : Int) = (l1.length : Int) then (musterlow_SameNumbers.l0 k l0 l1 0) else (some false)
theorem musterlow_SameNumbers.mono_l : ∀ k, (∀ y0 y1 y2, LeO (musterlow_SameNumbers.l0 k y0 y1 y2) (musterlow_SameNumbers.l0 (k + 1) y0 y1 y2))
  | 0 => fun _ _ _ r h => by simp [musterlow_SameNumbers.l0] at h
  | k + 1 => by
    have ih0 := musterlow_SameNumbers.mono_l k
    · intro y0 y1 y2
      unfold musterlow_SameNumbers.l0
      repeat' first
      | (with_reducible exact ih0 _ _ _)
      | (with_reducible exact LeO.refl _)
      | (with_reducible exact LeO.none _)
      | (with_reducible refine LeO.ite ?_ ?_)
      | (with_reducible refine LeO.bind ?_ (fun _ => ?_))
      | exact ih0 _ _ _
      | exact LeO.none _
      | refine LeO.ite ?_ ?_
      | refine LeO.bind ?_ (fun _ => ?_)
theorem musterlow_SameNumbers.mono : ∀ a0 a1 k, LeO (musterlow_SameNumbers.f k a0 a1) (musterlow_SameNumbers.f (k + 1) a0 a1) := by
  intro a0 a1 k
  have ih0 := musterlow_SameNumbers.mono_l k
  unfold musterlow_SameNumbers.f
  repeat' first
      | (with_reducible exact ih0 _ _ _)
      | (with_reducible exact LeO.refl _)
      | (with_reducible exact LeO.none _)
      | (with_reducible refine LeO.ite ?_ ?_)
      | (with_reducible refine LeO.bind ?_ (fun _ => ?_))
      | exact ih0 _ _ _
      | exact LeO.none _
      | refine LeO.ite ?_ ?_
      | refine LeO.bind ?_ (fun _ => ?_)
set_option maxHeartbeats 8000000 in
set_option maxRecDepth 100000 in
theorem musterlow_SameNumbers.calls (k : Nat) (A0 : Option Addr) (c0 : Nat) (l0 : List Int) (A1 : Option Addr) (c1 : Nat) (l1 : List Int) (r : Bool) (w : World) (hr0 : Kd.C (Kd.int .i64) w A0 l0.length l0) (hc0 : l0.length ≤ c0) (hr1 : Kd.C (Kd.int .i64) w A1 l1.length l1) (hc1 : l1.length ≤ c1) (h : musterlow_SameNumbers.f k l0 l1 = some r) :
    Calls Try.prog 43 #[.slice A0 l0.length c0, .slice A1 l1.length c1] w fun e w' => e = .returned (.bool r) ∧ Drawn0 w w' := by
  have HR0 := Aside0.mk hr0
  have HC0 := Aside0.mk hc0
  clear hr0 hc0
  have HR1 := Aside0.mk hr1
  have HC1 := Aside0.mk hc1
  clear hr1 hc1
  have H : (if (l0.length : Int) = (l1.length : Int) then (musterlow_SameNumbers.l0 k l0 l1 0) else (some false)) = some r := h
  clear h
  by_cases c3 : (l0.length : Int) = (l1.length : Int)
  · rw [if_pos c3] at H
    have c3b0 : ((l0.length : Int) == (l1.length : Int)) = true := beq_iff_eq.mpr c3
    have c3b1 : ((l0.length : Int) != (l1.length : Int)) = false := bne_eq_false_iff_eq.mpr c3
    have c3b2 : (l0.length == l1.length) = true := by first | simpa using c3 | (simp at c3 ⊢; omega)
    clear c3
    have H' := Aside0.mk H
    clear H
    go_enter Try.func43, Try.ntmps43
    go_wp2
    repeat (go_quiet (fail); try go_wp2)
    go_loopg [5] k (fun kq v5 w' => ∃ (x5_1 : Int), v5 = .int .i64 x5_1 ∧ Aside0 (musterlow_SameNumbers.l0 kq l0 l1 x5_1 = some r) ∧ Aside0 (kq ≤ k) ∧ Drawn0 w w')
    case atStart => exact ⟨(0), (by first | rfl | (simp; done) | (simp [*]; done)), H', ⟨Nat.le_refl _⟩, by repeat (first | exact Drawn0.refl _ | apply Drawn0.step)⟩
    case round =>
      clear H'
      try clear c1
      try clear p2
      try clear c3
      try clear c3b0
      try clear c3b1
      try clear c3b2
      obtain ⟨x5_1, rfl, HA, HK1, ⟨m1, rfl⟩⟩ := hrel
      cases gk with
      | zero => exact absurd HA.out (by simp [musterlow_SameNumbers.l0])
      | succ k1 =>
        have H := HA.out
        clear HA
        simp only [musterlow_SameNumbers.l0] at H
        by_cases c4 : x5_1 < (l0.length : Int)
        · rw [if_pos c4] at H
          have c4b0 : decide (x5_1 < (l0.length : Int)) = true := decide_eq_true c4
          clear c4
          by_cases c5 : 0 ≤ x5_1
          · rw [if_pos c5] at H
            have c5b0 : decide (0 ≤ x5_1) = true := decide_eq_true c5
            clear c5
            by_cases c6 : x5_1 < (l1.length : Int)
            · rw [if_pos c6] at H
              have c6b0 : decide (x5_1 < (l1.length : Int)) = true := decide_eq_true c6
              clear c6
              by_cases c7 : (rd l0 x5_1) = (rd l1 x5_1)
              · rw [if_pos c7] at H
                have c7b0 : ((rd l0 x5_1) == (rd l1 x5_1)) = true := beq_iff_eq.mpr c7
                have c7b1 : ((rd l0 x5_1) != (rd l1 x5_1)) = false := bne_eq_false_iff_eq.mpr c7
                clear c7
                have H' := Aside0.mk H
                clear H
                have p101 : 0 ≤ (x5_1 : Int) := of_decide_eq_true (by first | (with_reducible assumption) | assumption)
                have q101 : x5_1 < (l0.length : Int) := of_decide_eq_true (by first | (with_reducible assumption) | assumption)
                obtain ⟨ad101, e101, hx101_0⟩ := Kd.at_int HR0.out x5_1 p101 q101
                cases e101
                replace p101 := eq_true p101
                replace q101 := eq_true q101
                have p102 : 0 ≤ (x5_1 : Int) := of_decide_eq_true (by first | (with_reducible assumption) | assumption)
                have q102 : x5_1 < (l1.length : Int) := of_decide_eq_true (by first | (with_reducible assumption) | assumption)
                obtain ⟨ad102, e102, hx102_0⟩ := Kd.at_int HR1.out x5_1 p102 q102
                cases e102
                replace p102 := eq_true p102
                replace q102 := eq_true q102
                go_wp2
                repeat (go_quiet (fail); try go_wp2)
                go_roundg k1
                case measure => have := HK1.out; omega
                case rel => exact ⟨(wrap64 (x5_1 + 1)), (by first | rfl | (simp; done) | (simp [*]; done)), H', ⟨by have := HK1.out; omega⟩, by repeat (first | exact Drawn0.refl _ | apply Drawn0.step)⟩
              · rw [if_neg c7] at H
                have c7b0 : ((rd l0 x5_1) == (rd l1 x5_1)) = false := beq_eq_false_iff_ne.mpr c7
                have c7b1 : ((rd l0 x5_1) != (rd l1 x5_1)) = true := bne_iff_ne.mpr c7
                obtain rfl := Option.some.inj H
                have p101 : 0 ≤ (x5_1 : Int) := of_decide_eq_true (by first | (with_reducible assumption) | assumption)
                have q101 : x5_1 < (l0.length : Int) := of_decide_eq_true (by first | (with_reducible assumption) | assumption)
                obtain ⟨ad101, e101, hx101_0⟩ := Kd.at_int HR0.out x5_1 p101 q101
                cases e101
                replace p101 := eq_true p101
                replace q101 := eq_true q101
                have p102 : 0 ≤ (x5_1 : Int) := of_decide_eq_true (by first | (with_reducible assumption) | assumption)
                have q102 : x5_1 < (l1.length : Int) := of_decide_eq_true (by first | (with_reducible assumption) | assumption)
                obtain ⟨ad102, e102, hx102_0⟩ := Kd.at_int HR1.out x5_1 p102 q102
                cases e102
                replace p102 := eq_true p102
                replace q102 := eq_true q102
                go_wp2
                repeat (go_quiet (fail); try go_wp2)
                go_ret
                exact ⟨by first | rfl | (simp; done) | (simp [*]; done), by repeat (first | exact Drawn0.refl _ | apply Drawn0.step)⟩
            · rw [if_neg c6] at H
              exact absurd H (by simp)
          · rw [if_neg c5] at H
            exact absurd H (by simp)
        · rw [if_neg c4] at H
          have c4b0 : decide (x5_1 < (l0.length : Int)) = false := decide_eq_false c4
          clear c4
          obtain rfl := Option.some.inj H
          go_wp2
          repeat (go_quiet (fail); try go_wp2)
          go_ret
          exact ⟨by first | rfl | (simp; done) | (simp [*]; done), by repeat (first | exact Drawn0.refl _ | apply Drawn0.step)⟩
  · rw [if_neg c3] at H
    have c3b0 : ((l0.length : Int) == (l1.length : Int)) = false := beq_eq_false_iff_ne.mpr c3
    have c3b1 : ((l0.length : Int) != (l1.length : Int)) = true := bne_iff_ne.mpr c3
    have c3b2 : (l0.length == l1.length) = false := by first | simpa using c3 | (simp at c3 ⊢; omega)
    obtain rfl := Option.some.inj H
    go_enter Try.func43, Try.ntmps43
    go_wp2
    repeat (go_quiet (fail); try go_wp2)
    go_ret
    exact ⟨by first | rfl | (simp; done) | (simp [*]; done), by repeat (first | exact Drawn0.refl _ | apply Drawn0.step)⟩

/-! ### musterlow_SameTexts: function 44 -/
def musterlow_SameTexts.l0 : Nat → List ByteArray → List ByteArray → Int → Option (Bool)
  | 0, _, _, _ => none
  | k + 1, x0, x1, x5 => if x5 < (x0.length : Int) then (if 0 ≤ x5 then (if x5 < (x1.length : Int) then (if (rdOf ByteArray.empty x0 x5).toList = (rdOf ByteArray.empty x1 x5).toList then (musterlow_SameTexts.l0 k x0 x1 (wrap64 (x5 + 1))) else (some false)) else (none)) else (none)) else (some true)
def musterlow_SameTexts.f (k : Nat) (l0 : List ByteArray) (l1 : List ByteArray) : Option (Bool) := if (l0.length : Int) = (l1.length : Int) then (musterlow_SameTexts.l0 k l0 l1 0) else (some false)
theorem musterlow_SameTexts.mono_l : ∀ k, (∀ y0 y1 y2, LeO (musterlow_SameTexts.l0 k y0 y1 y2) (musterlow_SameTexts.l0 (k + 1) y0 y1 y2))
  | 0 => fun _ _ _ r h => by simp [musterlow_SameTexts.l0] at h
  | k + 1 => by
    have ih0 := musterlow_SameTexts.mono_l k
    · intro y0 y1 y2
      unfold musterlow_SameTexts.l0
      repeat' first
      | (with_reducible exact ih0 _ _ _)
      | (with_reducible exact LeO.refl _)
      | (with_reducible exact LeO.none _)
      | (with_reducible refine LeO.ite ?_ ?_)
      | (with_reducible refine LeO.bind ?_ (fun _ => ?_))
      | exact ih0 _ _ _
      | exact LeO.none _
      | refine LeO.ite ?_ ?_
      | refine LeO.bind ?_ (fun _ => ?_)
theorem musterlow_SameTexts.mono : ∀ a0 a1 k, LeO (musterlow_SameTexts.f k a0 a1) (musterlow_SameTexts.f (k + 1) a0 a1) := by
  intro a0 a1 k
  have ih0 := musterlow_SameTexts.mono_l k
  unfold musterlow_SameTexts.f
  repeat' first
      | (with_reducible exact ih0 _ _ _)
      | (with_reducible exact LeO.refl _)
      | (with_reducible exact LeO.none _)
      | (with_reducible refine LeO.ite ?_ ?_)
      | (with_reducible refine LeO.bind ?_ (fun _ => ?_))
      | exact ih0 _ _ _
      | exact LeO.none _
      | refine LeO.ite ?_ ?_
      | refine LeO.bind ?_ (fun _ => ?_)
set_option maxHeartbeats 8000000 in
set_option maxRecDepth 100000 in
theorem musterlow_SameTexts.calls (k : Nat) (A0 : Option Addr) (c0 : Nat) (l0 : List ByteArray) (A1 : Option Addr) (c1 : Nat) (l1 : List ByteArray) (r : Bool) (w : World) (hr0 : Kd.C Kd.string w A0 l0.length l0) (hc0 : l0.length ≤ c0) (hr1 : Kd.C Kd.string w A1 l1.length l1) (hc1 : l1.length ≤ c1) (h : musterlow_SameTexts.f k l0 l1 = some r) :
    Calls Try.prog 44 #[.slice A0 l0.length c0, .slice A1 l1.length c1] w fun e w' => e = .returned (.bool r) ∧ Drawn0 w w' := by
  have HR0 := Aside0.mk hr0
  have HC0 := Aside0.mk hc0
  clear hr0 hc0
  have HR1 := Aside0.mk hr1
  have HC1 := Aside0.mk hc1
  clear hr1 hc1
  have H : (if (l0.length : Int) = (l1.length : Int) then (musterlow_SameTexts.l0 k l0 l1 0) else (some false)) = some r := h
  clear h
  by_cases c3 : (l0.length : Int) = (l1.length : Int)
  · rw [if_pos c3] at H
    have c3b0 : ((l0.length : Int) == (l1.length : Int)) = true := beq_iff_eq.mpr c3
    have c3b1 : ((l0.length : Int) != (l1.length : Int)) = false := bne_eq_false_iff_eq.mpr c3
    have c3b2 : (l0.length == l1.length) = true := by first | simpa using c3 | (simp at c3 ⊢; omega)
    clear c3
    have H' := Aside0.mk H
    clear H
    go_enter Try.func44, Try.ntmps44
    go_wp2
    repeat (go_quiet (fail); try go_wp2)
    go_loopg [5] k (fun kq v5 w' => ∃ (x5_1 : Int), v5 = .int .i64 x5_1 ∧ Aside0 (musterlow_SameTexts.l0 kq l0 l1 x5_1 = some r) ∧ Aside0 (kq ≤ k) ∧ Drawn0 w w')
    case atStart => exact ⟨(0), (by first | rfl | (simp; done) | (simp [*]; done)), H', ⟨Nat.le_refl _⟩, by repeat (first | exact Drawn0.refl _ | apply Drawn0.step)⟩
    case round =>
      clear H'
      try clear c1
      try clear p2
      try clear c3
      try clear c3b0
      try clear c3b1
      try clear c3b2
      obtain ⟨x5_1, rfl, HA, HK1, ⟨m1, rfl⟩⟩ := hrel
      cases gk with
      | zero => exact absurd HA.out (by simp [musterlow_SameTexts.l0])
      | succ k1 =>
        have H := HA.out
        clear HA
        simp only [musterlow_SameTexts.l0] at H
        by_cases c4 : x5_1 < (l0.length : Int)
        · rw [if_pos c4] at H
          have c4b0 : decide (x5_1 < (l0.length : Int)) = true := decide_eq_true c4
          clear c4
          by_cases c5 : 0 ≤ x5_1
          · rw [if_pos c5] at H
            have c5b0 : decide (0 ≤ x5_1) = true := decide_eq_true c5
            clear c5
            by_cases c6 : x5_1 < (l1.length : Int)
            · rw [if_pos c6] at H
              have c6b0 : decide (x5_1 < (l1.length : Int)) = true := decide_eq_true c6
              clear c6
              by_cases c7 : (rdOf ByteArray.empty l0 x5_1).toList = (rdOf ByteArray.empty l1 x5_1).toList
              · rw [if_pos c7] at H
                have c7b0 : ((rdOf ByteArray.empty l0 x5_1).toList == (rdOf ByteArray.empty l1 x5_1).toList) = true := beq_iff_eq.mpr c7
                have c7b1 : ((rdOf ByteArray.empty l0 x5_1).toList != (rdOf ByteArray.empty l1 x5_1).toList) = false := bne_eq_false_iff_eq.mpr c7
                clear c7
                have H' := Aside0.mk H
                clear H
                have p103 : 0 ≤ (x5_1 : Int) := of_decide_eq_true (by first | (with_reducible assumption) | assumption)
                have q103 : x5_1 < (l0.length : Int) := of_decide_eq_true (by first | (with_reducible assumption) | assumption)
                obtain ⟨ad103, e103, hx103_0⟩ := Kd.at_string HR0.out x5_1 p103 q103
                cases e103
                replace p103 := eq_true p103
                replace q103 := eq_true q103
                have p104 : 0 ≤ (x5_1 : Int) := of_decide_eq_true (by first | (with_reducible assumption) | assumption)
                have q104 : x5_1 < (l1.length : Int) := of_decide_eq_true (by first | (with_reducible assumption) | assumption)
                obtain ⟨ad104, e104, hx104_0⟩ := Kd.at_string HR1.out x5_1 p104 q104
                cases e104
                replace p104 := eq_true p104
                replace q104 := eq_true q104
                go_wp2
                repeat (go_quiet (fail); try go_wp2)
                go_roundg k1
                case measure => have := HK1.out; omega
                case rel => exact ⟨(wrap64 (x5_1 + 1)), (by first | rfl | (simp; done) | (simp [*]; done)), H', ⟨by have := HK1.out; omega⟩, by repeat (first | exact Drawn0.refl _ | apply Drawn0.step)⟩
              · rw [if_neg c7] at H
                have c7b0 : ((rdOf ByteArray.empty l0 x5_1).toList == (rdOf ByteArray.empty l1 x5_1).toList) = false := beq_eq_false_iff_ne.mpr c7
                have c7b1 : ((rdOf ByteArray.empty l0 x5_1).toList != (rdOf ByteArray.empty l1 x5_1).toList) = true := bne_iff_ne.mpr c7
                obtain rfl := Option.some.inj H
                have p103 : 0 ≤ (x5_1 : Int) := of_decide_eq_true (by first | (with_reducible assumption) | assumption)
                have q103 : x5_1 < (l0.length : Int) := of_decide_eq_true (by first | (with_reducible assumption) | assumption)
                obtain ⟨ad103, e103, hx103_0⟩ := Kd.at_string HR0.out x5_1 p103 q103
                cases e103
                replace p103 := eq_true p103
                replace q103 := eq_true q103
                have p104 : 0 ≤ (x5_1 : Int) := of_decide_eq_true (by first | (with_reducible assumption) | assumption)
                have q104 : x5_1 < (l1.length : Int) := of_decide_eq_true (by first | (with_reducible assumption) | assumption)
                obtain ⟨ad104, e104, hx104_0⟩ := Kd.at_string HR1.out x5_1 p104 q104
                cases e104
                replace p104 := eq_true p104
                replace q104 := eq_true q104
                go_wp2
                repeat (go_quiet (fail); try go_wp2)
                go_ret
                exact ⟨by first | rfl | (simp; done) | (simp [*]; done), by repeat (first | exact Drawn0.refl _ | apply Drawn0.step)⟩
            · rw [if_neg c6] at H
              exact absurd H (by simp)
          · rw [if_neg c5] at H
            exact absurd H (by simp)
        · rw [if_neg c4] at H
          have c4b0 : decide (x5_1 < (l0.length : Int)) = false := decide_eq_false c4
          clear c4
          obtain rfl := Option.some.inj H
          go_wp2
          repeat (go_quiet (fail); try go_wp2)
          go_ret
          exact ⟨by first | rfl | (simp; done) | (simp [*]; done), by repeat (first | exact Drawn0.refl _ | apply Drawn0.step)⟩
  · rw [if_neg c3] at H
    have c3b0 : ((l0.length : Int) == (l1.length : Int)) = false := beq_eq_false_iff_ne.mpr c3
    have c3b1 : ((l0.length : Int) != (l1.length : Int)) = true := bne_iff_ne.mpr c3
    have c3b2 : (l0.length == l1.length) = false := by first | simpa using c3 | (simp at c3 ⊢; omega)
    obtain rfl := Option.some.inj H
    go_enter Try.func44, Try.ntmps44
    go_wp2
    repeat (go_quiet (fail); try go_wp2)
    go_ret
    exact ⟨by first | rfl | (simp; done) | (simp [*]; done), by repeat (first | exact Drawn0.refl _ | apply Drawn0.step)⟩

/-! ### musterlow_SameField: function 19 -/
def musterlow_SameField.f (k : Nat) (a0_0 : Int) (a0_1 : Int) (a0_2 : Int) (a0_3 : ByteArray) (l0_4 : List Int) (l0_5 : List ByteArray) (a1_0 : Int) (a1_1 : Int) (a1_2 : Int) (a1_3 : ByteArray) (l1_4 : List Int) (l1_5 : List ByteArray) : Option (Bool) := if a0_0 = a1_0 then (if a0_1 = a1_1 then (if a0_2 = a1_2 then (if a0_3.toList = a1_3.toList then ((musterlow_SameNumbers.f k l0_4 l1_4).bind fun t107 => (if t107 = true then ((musterlow_SameTexts.f k l0_5 l1_5).bind fun t108 => (some t108)) else (some false))) else (some false)) else (some false)) else (some false)) else (some false)
theorem musterlow_SameField.mono : ∀ a0 a1 a2 a3 a4 a5 a6 a7 a8 a9 a10 a11 k, LeO (musterlow_SameField.f k a0 a1 a2 a3 a4 a5 a6 a7 a8 a9 a10 a11) (musterlow_SameField.f (k + 1) a0 a1 a2 a3 a4 a5 a6 a7 a8 a9 a10 a11) := by
  intro a0 a1 a2 a3 a4 a5 a6 a7 a8 a9 a10 a11 k
  unfold musterlow_SameField.f
  repeat' first
      | (with_reducible exact musterlow_SameNumbers.mono _ _ _)
      | (with_reducible exact musterlow_SameTexts.mono _ _ _)
      | (with_reducible exact LeO.refl _)
      | (with_reducible exact LeO.none _)
      | (with_reducible refine LeO.ite ?_ ?_)
      | (with_reducible refine LeO.bind ?_ (fun _ => ?_))
      | exact musterlow_SameNumbers.mono _ _ _
      | exact musterlow_SameTexts.mono _ _ _
      | exact LeO.none _
      | refine LeO.ite ?_ ?_
      | refine LeO.bind ?_ (fun _ => ?_)
set_option maxHeartbeats 8000000 in
set_option maxRecDepth 100000 in
theorem musterlow_SameField.calls (k : Nat) (a0_0 : Int) (a0_1 : Int) (a0_2 : Int) (a0_3 : ByteArray) (A0_4 : Option Addr) (c0_4 : Nat) (l0_4 : List Int) (A0_5 : Option Addr) (c0_5 : Nat) (l0_5 : List ByteArray) (a1_0 : Int) (a1_1 : Int) (a1_2 : Int) (a1_3 : ByteArray) (A1_4 : Option Addr) (c1_4 : Nat) (l1_4 : List Int) (A1_5 : Option Addr) (c1_5 : Nat) (l1_5 : List ByteArray) (r : Bool) (w : World) (hr0_4 : Kd.C (Kd.int .i64) w A0_4 l0_4.length l0_4) (hc0_4 : l0_4.length ≤ c0_4) (hr0_5 : Kd.C Kd.string w A0_5 l0_5.length l0_5) (hc0_5 : l0_5.length ≤ c0_5) (hr1_4 : Kd.C (Kd.int .i64) w A1_4 l1_4.length l1_4) (hc1_4 : l1_4.length ≤ c1_4) (hr1_5 : Kd.C Kd.string w A1_5 l1_5.length l1_5) (hc1_5 : l1_5.length ≤ c1_5) (h : musterlow_SameField.f k a0_0 a0_1 a0_2 a0_3 l0_4 l0_5 a1_0 a1_1 a1_2 a1_3 l1_4 l1_5 = some r) :
    Calls Try.prog 19 #[.agg #[.int .u8 a0_0, .int .u8 a0_1, .int .i64 a0_2, .string a0_3, .slice A0_4 l0_4.length c0_4, .slice A0_5 l0_5.length c0_5], .agg #[.int .u8 a1_0, .int .u8 a1_1, .int .i64 a1_2, .string a1_3, .slice A1_4 l1_4.length c1_4, .slice A1_5 l1_5.length c1_5]] w fun e w' => e = .returned (.bool r) ∧ Below w.heap.size w w' := by
  have hu30 := Try.underlying30
  have HR0_4 := Aside0.mk hr0_4
  have HC0_4 := Aside0.mk hc0_4
  clear hr0_4 hc0_4
  have HR0_5 := Aside0.mk hr0_5
  have HC0_5 := Aside0.mk hc0_5
  clear hr0_5 hc0_5
  have HR1_4 := Aside0.mk hr1_4
  have HC1_4 := Aside0.mk hc1_4
  clear hr1_4 hc1_4
  have HR1_5 := Aside0.mk hr1_5
  have HC1_5 := Aside0.mk hc1_5
  clear hr1_5 hc1_5
  have HB := Aside0.mk (Below.refl w.heap.size w)
  have H : (if a0_0 = a1_0 then (if a0_1 = a1_1 then (if a0_2 = a1_2 then (if a0_3.toList = a1_3.toList then ((musterlow_SameNumbers.f k l0_4 l1_4).bind fun t107 => (if t107 = true then ((musterlow_SameTexts.f k l0_5 l1_5).bind fun t108 => (some t108)) else (some false))) else (some false)) else (some false)) else (some false)) else (some false)) = some r := h
  clear h
  by_cases c3 : a0_0 = a1_0
  · rw [if_pos c3] at H
    have c3b0 : (a0_0 == a1_0) = true := beq_iff_eq.mpr c3
    have c3b1 : (a0_0 != a1_0) = false := bne_eq_false_iff_eq.mpr c3
    clear c3
    by_cases c4 : a0_1 = a1_1
    · rw [if_pos c4] at H
      have c4b0 : (a0_1 == a1_1) = true := beq_iff_eq.mpr c4
      have c4b1 : (a0_1 != a1_1) = false := bne_eq_false_iff_eq.mpr c4
      clear c4
      by_cases c5 : a0_2 = a1_2
      · rw [if_pos c5] at H
        have c5b0 : (a0_2 == a1_2) = true := beq_iff_eq.mpr c5
        have c5b1 : (a0_2 != a1_2) = false := bne_eq_false_iff_eq.mpr c5
        clear c5
        by_cases c6 : a0_3.toList = a1_3.toList
        · rw [if_pos c6] at H
          have c6b0 : (a0_3.toList == a1_3.toList) = true := beq_iff_eq.mpr c6
          have c6b1 : (a0_3.toList != a1_3.toList) = false := bne_eq_false_iff_eq.mpr c6
          clear c6
          replace H := Option.bind_eq_some_iff.mp H
          obtain ⟨t107, A70, H⟩ := H
          replace H : (if t107 = true then ((musterlow_SameTexts.f k l0_5 l1_5).bind fun t108 => (some t108)) else (some false)) = some r := H
          have A7 := Aside0.mk A70
          clear A70
          by_cases c8 : t107 = true
          · subst c8
            have H1 : ((musterlow_SameTexts.f k l0_5 l1_5).bind fun t108 => (some t108)) = some r := by rw [if_pos rfl] at H; exact H
            clear H
            have H := H1
            clear H1
            replace H := Option.bind_eq_some_iff.mp H
            obtain ⟨t108, A90, H⟩ := H
            replace H : (some t108) = some r := H
            have A9 := Aside0.mk A90
            clear A90
            obtain rfl := Option.some.inj H
            go_enter Try.func19, Try.ntmps19
            go_wp2_with (first | ((with_reducible refine gate_dst (N := 2) rfl ?_); refine box_event ?hg (N := 2) ?hd (cs := #[.int .u8 a0_0, .int .u8 a0_1, .int .i64 a0_2, .string a0_3, .slice A0_4 l0_4.length c0_4, .slice A0_5 l0_5.length c0_5]) (t := 30) ?hr ?_; (case hd => rfl); (case hg => rfl); (case hr => first | (go_simp; done) | (go_simp; rfl)); intro gb105 hg w10 hbox hb; have n0_ := Aside0.mk (below_step (by repeat (first | (with_reducible first | exact HB.out | apply below_alloc | apply pw_below_drewN | apply below_drew1) | exact HB.out)) hb); have n1_ := Aside0.mk (hbox); have n2_ := Aside0.mk ((by rw [hg]; exact (below_size (by repeat (first | (with_reducible first | exact HB.out | apply below_alloc | apply pw_below_drewN | apply below_drew1) | exact HB.out))) : w.heap.size ≤ gb105)); have n3_ := Aside0.mk ((by rw [hg]; exact (below_size (by repeat (first | (with_reducible first | exact HB.out | apply below_alloc | apply pw_below_drewN | apply below_drew1) | exact HB.out))) : w.heap.size ≤ gb105)); clear HB; have HB := n0_; have BK105 := n1_; have GW105 := n2_; have GE105 := n3_; clear n0_ n1_ n2_ n3_; clear hb hbox hg) | ((with_reducible refine gate_dst (N := 3) rfl ?_); refine box_event ?hg (N := 3) ?hd (cs := #[.int .u8 a1_0, .int .u8 a1_1, .int .i64 a1_2, .string a1_3, .slice A1_4 l1_4.length c1_4, .slice A1_5 l1_5.length c1_5]) (t := 30) ?hr ?_; (case hd => rfl); (case hg => rfl); (case hr => first | (go_simp; done) | (go_simp; rfl)); intro gb106 hg w11 hbox hb; have n0_ := Aside0.mk (blk_below (g := gb105) (o := .cells #[.int .u8 a0_0, .int .u8 a0_1, .int .i64 a0_2, .string a0_3, .slice A0_4 l0_4.length c0_4, .slice A0_5 l0_5.length c0_5] 30 (0, 0)) (by (with_reducible repeat (first | refine blk_drewN ?_ _ | refine blk_drew ?_ | refine blk_alloc ?_ _)); exact BK105.out) hb); have n1_ := Aside0.mk (below_step (by repeat (first | (with_reducible first | exact HB.out | apply below_alloc | apply pw_below_drewN | apply below_drew1 | refine below_set ?_ GE105.out) | exact HB.out)) hb); have n2_ := Aside0.mk (hbox); have n3_ := Aside0.mk ((by rw [hg]; exact (below_size (by repeat (first | (with_reducible first | exact HB.out | apply below_alloc | apply pw_below_drewN | apply below_drew1 | refine below_set ?_ GE105.out) | exact HB.out))) : w.heap.size ≤ gb106)); have n4_ := Aside0.mk ((by rw [hg]; exact (below_size (by repeat (first | (with_reducible first | exact HB.out | apply below_alloc | apply pw_below_drewN | apply below_drew1 | refine below_set ?_ GE105.out) | exact HB.out))) : w.heap.size ≤ gb106)); have n5_ := Aside0.mk ((by rw [hg]; exact Nat.ne_of_lt (blk_lt (g := gb105) (o := .cells #[.int .u8 a0_0, .int .u8 a0_1, .int .i64 a0_2, .string a0_3, .slice A0_4 l0_4.length c0_4, .slice A0_5 l0_5.length c0_5] 30 (0, 0)) (by (with_reducible repeat (first | refine blk_drewN ?_ _ | refine blk_drew ?_ | refine blk_alloc ?_ _)); exact BK105.out)) : gb105 ≠ gb106)); have n6_ := Aside0.mk ((by rw [hg]; exact Nat.ne_of_gt (blk_lt (g := gb105) (o := .cells #[.int .u8 a0_0, .int .u8 a0_1, .int .i64 a0_2, .string a0_3, .slice A0_4 l0_4.length c0_4, .slice A0_5 l0_5.length c0_5] 30 (0, 0)) (by (with_reducible repeat (first | refine blk_drewN ?_ _ | refine blk_drew ?_ | refine blk_alloc ?_ _)); exact BK105.out)) : gb106 ≠ gb105)); clear BK105; clear HB; have BK105 := n0_; have HB := n1_; have BK106 := n2_; have GW106 := n3_; have GE106 := n4_; have NB105_106 := n5_; have NB106_105 := n6_; clear n0_ n1_ n2_ n3_ n4_ n5_ n6_; clear hb hbox hg; have hnb12 := NB105_106.out; have hnc12 := NB106_105.out; have hcz13_0 : w11.cell? ⟨gb105, 0, none⟩ = some (.int .u8 a0_0) := (blk_cell BK105.out 0).trans rfl; have hcz13_1 : w11.cell? ⟨gb105, 1, none⟩ = some (.int .u8 a0_1) := (blk_cell BK105.out 1).trans rfl; have hcz13_2 : w11.cell? ⟨gb105, 2, none⟩ = some (.int .i64 a0_2) := (blk_cell BK105.out 2).trans rfl; have hcz13_3 : w11.cell? ⟨gb105, 3, none⟩ = some (.string a0_3) := (blk_cell BK105.out 3).trans rfl; have hcz13_4 : w11.cell? ⟨gb105, 4, none⟩ = some (.slice A0_4 l0_4.length c0_4) := (blk_cell BK105.out 4).trans rfl; have hcz13_5 : w11.cell? ⟨gb105, 5, none⟩ = some (.slice A0_5 l0_5.length c0_5) := (blk_cell BK105.out 5).trans rfl; have hfz13_0 := blk_frozen BK105.out 0; have hfz13_1 := blk_frozen BK105.out 1; have hfz13_2 := blk_frozen BK105.out 2; have hfz13_3 := blk_frozen BK105.out 3; have hfz13_4 := blk_frozen BK105.out 4; have hfz13_5 := blk_frozen BK105.out 5; have hcz14_0 : w11.cell? ⟨gb106, 0, none⟩ = some (.int .u8 a1_0) := (blk_cell BK106.out 0).trans rfl; have hcz14_1 : w11.cell? ⟨gb106, 1, none⟩ = some (.int .u8 a1_1) := (blk_cell BK106.out 1).trans rfl; have hcz14_2 : w11.cell? ⟨gb106, 2, none⟩ = some (.int .i64 a1_2) := (blk_cell BK106.out 2).trans rfl; have hcz14_3 : w11.cell? ⟨gb106, 3, none⟩ = some (.string a1_3) := (blk_cell BK106.out 3).trans rfl; have hcz14_4 : w11.cell? ⟨gb106, 4, none⟩ = some (.slice A1_4 l1_4.length c1_4) := (blk_cell BK106.out 4).trans rfl; have hcz14_5 : w11.cell? ⟨gb106, 5, none⟩ = some (.slice A1_5 l1_5.length c1_5) := (blk_cell BK106.out 5).trans rfl; have hfz14_0 := blk_frozen BK106.out 0; have hfz14_1 := blk_frozen BK106.out 1; have hfz14_2 := blk_frozen BK106.out 2; have hfz14_3 := blk_frozen BK106.out 3; have hfz14_4 := blk_frozen BK106.out 4; have hfz14_5 := blk_frozen BK106.out 5) | (go_at_call 43; (with_reducible refine (musterlow_SameNumbers.calls k _ _ l0_4 _ _ l1_4 true _ ?side1 ?side2 ?side3 ?side4 A7.out).mono ?_); (case side1 => repeat (first | exact (Kd.C_below HR0_4.out HB.out) | (with_reducible refine Kd.C_alloc ?_ _) | (with_reducible refine Kd.C_drewN ?_ _) | (with_reducible refine Kd.C_drew ?_))); (case side2 => exact HC0_4.out); (case side3 => repeat (first | exact (Kd.C_below HR1_4.out HB.out) | (with_reducible refine Kd.C_alloc ?_ _) | (with_reducible refine Kd.C_drewN ?_ _) | (with_reducible refine Kd.C_drew ?_))); (case side4 => exact HC1_4.out); rintro e w' ⟨rfl, ⟨nd, rfl⟩⟩) | (go_at_call 44; (with_reducible refine (musterlow_SameTexts.calls k _ _ l0_5 _ _ l1_5 t108 _ ?side1 ?side2 ?side3 ?side4 A9.out).mono ?_); (case side1 => repeat (first | exact (Kd.C_below HR0_5.out (by repeat (first | (with_reducible first | exact HB.out | apply below_alloc | apply pw_below_drewN | apply below_drew1 | refine below_set ?_ GE105.out | refine below_set ?_ GE106.out) | exact HB.out))) | (with_reducible refine Kd.C_alloc ?_ _) | (with_reducible refine Kd.C_drewN ?_ _) | (with_reducible refine Kd.C_drew ?_))); (case side2 => exact HC0_5.out); (case side3 => repeat (first | exact (Kd.C_below HR1_5.out (by repeat (first | (with_reducible first | exact HB.out | apply below_alloc | apply pw_below_drewN | apply below_drew1 | refine below_set ?_ GE105.out | refine below_set ?_ GE106.out) | exact HB.out))) | (with_reducible refine Kd.C_alloc ?_ _) | (with_reducible refine Kd.C_drewN ?_ _) | (with_reducible refine Kd.C_drew ?_))); (case side4 => exact HC1_5.out); rintro e w' ⟨rfl, ⟨nd, rfl⟩⟩))
            go_ret
            exact ⟨by first | rfl | (simp [errW_none, errW_some] <;> rfl) | (simp [*, errW_none, errW_some] <;> rfl), by repeat (first | (with_reducible first | exact HB.out | apply below_alloc | apply pw_below_drewN | apply below_drew1 | refine below_set ?_ GE105.out | refine below_set ?_ GE106.out) | exact HB.out)⟩
          · replace c8 := Bool.eq_false_iff.mpr c8
            subst c8
            have H1 : (some false) = some r := by rw [if_neg (show ¬ (false = true) by decide)] at H; exact H
            clear H
            have H := H1
            clear H1
            obtain rfl := Option.some.inj H
            go_enter Try.func19, Try.ntmps19
            go_wp2_with (first | ((with_reducible refine gate_dst (N := 2) rfl ?_); refine box_event ?hg (N := 2) ?hd (cs := #[.int .u8 a0_0, .int .u8 a0_1, .int .i64 a0_2, .string a0_3, .slice A0_4 l0_4.length c0_4, .slice A0_5 l0_5.length c0_5]) (t := 30) ?hr ?_; (case hd => rfl); (case hg => rfl); (case hr => first | (go_simp; done) | (go_simp; rfl)); intro gb105 hg w15 hbox hb; have n0_ := Aside0.mk (below_step (by repeat (first | (with_reducible first | exact HB.out | apply below_alloc | apply pw_below_drewN | apply below_drew1) | exact HB.out)) hb); have n1_ := Aside0.mk (hbox); have n2_ := Aside0.mk ((by rw [hg]; exact (below_size (by repeat (first | (with_reducible first | exact HB.out | apply below_alloc | apply pw_below_drewN | apply below_drew1) | exact HB.out))) : w.heap.size ≤ gb105)); have n3_ := Aside0.mk ((by rw [hg]; exact (below_size (by repeat (first | (with_reducible first | exact HB.out | apply below_alloc | apply pw_below_drewN | apply below_drew1) | exact HB.out))) : w.heap.size ≤ gb105)); clear HB; have HB := n0_; have BK105 := n1_; have GW105 := n2_; have GE105 := n3_; clear n0_ n1_ n2_ n3_; clear hb hbox hg) | ((with_reducible refine gate_dst (N := 3) rfl ?_); refine box_event ?hg (N := 3) ?hd (cs := #[.int .u8 a1_0, .int .u8 a1_1, .int .i64 a1_2, .string a1_3, .slice A1_4 l1_4.length c1_4, .slice A1_5 l1_5.length c1_5]) (t := 30) ?hr ?_; (case hd => rfl); (case hg => rfl); (case hr => first | (go_simp; done) | (go_simp; rfl)); intro gb106 hg w16 hbox hb; have n0_ := Aside0.mk (blk_below (g := gb105) (o := .cells #[.int .u8 a0_0, .int .u8 a0_1, .int .i64 a0_2, .string a0_3, .slice A0_4 l0_4.length c0_4, .slice A0_5 l0_5.length c0_5] 30 (0, 0)) (by (with_reducible repeat (first | refine blk_drewN ?_ _ | refine blk_drew ?_ | refine blk_alloc ?_ _)); exact BK105.out) hb); have n1_ := Aside0.mk (below_step (by repeat (first | (with_reducible first | exact HB.out | apply below_alloc | apply pw_below_drewN | apply below_drew1 | refine below_set ?_ GE105.out) | exact HB.out)) hb); have n2_ := Aside0.mk (hbox); have n3_ := Aside0.mk ((by rw [hg]; exact (below_size (by repeat (first | (with_reducible first | exact HB.out | apply below_alloc | apply pw_below_drewN | apply below_drew1 | refine below_set ?_ GE105.out) | exact HB.out))) : w.heap.size ≤ gb106)); have n4_ := Aside0.mk ((by rw [hg]; exact (below_size (by repeat (first | (with_reducible first | exact HB.out | apply below_alloc | apply pw_below_drewN | apply below_drew1 | refine below_set ?_ GE105.out) | exact HB.out))) : w.heap.size ≤ gb106)); have n5_ := Aside0.mk ((by rw [hg]; exact Nat.ne_of_lt (blk_lt (g := gb105) (o := .cells #[.int .u8 a0_0, .int .u8 a0_1, .int .i64 a0_2, .string a0_3, .slice A0_4 l0_4.length c0_4, .slice A0_5 l0_5.length c0_5] 30 (0, 0)) (by (with_reducible repeat (first | refine blk_drewN ?_ _ | refine blk_drew ?_ | refine blk_alloc ?_ _)); exact BK105.out)) : gb105 ≠ gb106)); have n6_ := Aside0.mk ((by rw [hg]; exact Nat.ne_of_gt (blk_lt (g := gb105) (o := .cells #[.int .u8 a0_0, .int .u8 a0_1, .int .i64 a0_2, .string a0_3, .slice A0_4 l0_4.length c0_4, .slice A0_5 l0_5.length c0_5] 30 (0, 0)) (by (with_reducible repeat (first | refine blk_drewN ?_ _ | refine blk_drew ?_ | refine blk_alloc ?_ _)); exact BK105.out)) : gb106 ≠ gb105)); clear BK105; clear HB; have BK105 := n0_; have HB := n1_; have BK106 := n2_; have GW106 := n3_; have GE106 := n4_; have NB105_106 := n5_; have NB106_105 := n6_; clear n0_ n1_ n2_ n3_ n4_ n5_ n6_; clear hb hbox hg; have hnb17 := NB105_106.out; have hnc17 := NB106_105.out; have hcz18_0 : w16.cell? ⟨gb105, 0, none⟩ = some (.int .u8 a0_0) := (blk_cell BK105.out 0).trans rfl; have hcz18_1 : w16.cell? ⟨gb105, 1, none⟩ = some (.int .u8 a0_1) := (blk_cell BK105.out 1).trans rfl; have hcz18_2 : w16.cell? ⟨gb105, 2, none⟩ = some (.int .i64 a0_2) := (blk_cell BK105.out 2).trans rfl; have hcz18_3 : w16.cell? ⟨gb105, 3, none⟩ = some (.string a0_3) := (blk_cell BK105.out 3).trans rfl; have hcz18_4 : w16.cell? ⟨gb105, 4, none⟩ = some (.slice A0_4 l0_4.length c0_4) := (blk_cell BK105.out 4).trans rfl; have hcz18_5 : w16.cell? ⟨gb105, 5, none⟩ = some (.slice A0_5 l0_5.length c0_5) := (blk_cell BK105.out 5).trans rfl; have hfz18_0 := blk_frozen BK105.out 0; have hfz18_1 := blk_frozen BK105.out 1; have hfz18_2 := blk_frozen BK105.out 2; have hfz18_3 := blk_frozen BK105.out 3; have hfz18_4 := blk_frozen BK105.out 4; have hfz18_5 := blk_frozen BK105.out 5; have hcz19_0 : w16.cell? ⟨gb106, 0, none⟩ = some (.int .u8 a1_0) := (blk_cell BK106.out 0).trans rfl; have hcz19_1 : w16.cell? ⟨gb106, 1, none⟩ = some (.int .u8 a1_1) := (blk_cell BK106.out 1).trans rfl; have hcz19_2 : w16.cell? ⟨gb106, 2, none⟩ = some (.int .i64 a1_2) := (blk_cell BK106.out 2).trans rfl; have hcz19_3 : w16.cell? ⟨gb106, 3, none⟩ = some (.string a1_3) := (blk_cell BK106.out 3).trans rfl; have hcz19_4 : w16.cell? ⟨gb106, 4, none⟩ = some (.slice A1_4 l1_4.length c1_4) := (blk_cell BK106.out 4).trans rfl; have hcz19_5 : w16.cell? ⟨gb106, 5, none⟩ = some (.slice A1_5 l1_5.length c1_5) := (blk_cell BK106.out 5).trans rfl; have hfz19_0 := blk_frozen BK106.out 0; have hfz19_1 := blk_frozen BK106.out 1; have hfz19_2 := blk_frozen BK106.out 2; have hfz19_3 := blk_frozen BK106.out 3; have hfz19_4 := blk_frozen BK106.out 4; have hfz19_5 := blk_frozen BK106.out 5) | (go_at_call 43; (with_reducible refine (musterlow_SameNumbers.calls k _ _ l0_4 _ _ l1_4 false _ ?side1 ?side2 ?side3 ?side4 A7.out).mono ?_); (case side1 => repeat (first | exact (Kd.C_below HR0_4.out HB.out) | (with_reducible refine Kd.C_alloc ?_ _) | (with_reducible refine Kd.C_drewN ?_ _) | (with_reducible refine Kd.C_drew ?_))); (case side2 => exact HC0_4.out); (case side3 => repeat (first | exact (Kd.C_below HR1_4.out HB.out) | (with_reducible refine Kd.C_alloc ?_ _) | (with_reducible refine Kd.C_drewN ?_ _) | (with_reducible refine Kd.C_drew ?_))); (case side4 => exact HC1_4.out); rintro e w' ⟨rfl, ⟨nd, rfl⟩⟩))
            go_ret
            exact ⟨by first | rfl | (simp [errW_none, errW_some] <;> rfl) | (simp [*, errW_none, errW_some] <;> rfl), by repeat (first | (with_reducible first | exact HB.out | apply below_alloc | apply pw_below_drewN | apply below_drew1 | refine below_set ?_ GE105.out | refine below_set ?_ GE106.out) | exact HB.out)⟩
        · rw [if_neg c6] at H
          have c6b0 : (a0_3.toList == a1_3.toList) = false := beq_eq_false_iff_ne.mpr c6
          have c6b1 : (a0_3.toList != a1_3.toList) = true := bne_iff_ne.mpr c6
          obtain rfl := Option.some.inj H
          go_enter Try.func19, Try.ntmps19
          go_wp2_with (first | ((with_reducible refine gate_dst (N := 2) rfl ?_); refine box_event ?hg (N := 2) ?hd (cs := #[.int .u8 a0_0, .int .u8 a0_1, .int .i64 a0_2, .string a0_3, .slice A0_4 l0_4.length c0_4, .slice A0_5 l0_5.length c0_5]) (t := 30) ?hr ?_; (case hd => rfl); (case hg => rfl); (case hr => first | (go_simp; done) | (go_simp; rfl)); intro gb105 hg w20 hbox hb; have n0_ := Aside0.mk (below_step (by repeat (first | (with_reducible first | exact HB.out | apply below_alloc | apply pw_below_drewN | apply below_drew1) | exact HB.out)) hb); have n1_ := Aside0.mk (hbox); have n2_ := Aside0.mk ((by rw [hg]; exact (below_size (by repeat (first | (with_reducible first | exact HB.out | apply below_alloc | apply pw_below_drewN | apply below_drew1) | exact HB.out))) : w.heap.size ≤ gb105)); have n3_ := Aside0.mk ((by rw [hg]; exact (below_size (by repeat (first | (with_reducible first | exact HB.out | apply below_alloc | apply pw_below_drewN | apply below_drew1) | exact HB.out))) : w.heap.size ≤ gb105)); clear HB; have HB := n0_; have BK105 := n1_; have GW105 := n2_; have GE105 := n3_; clear n0_ n1_ n2_ n3_; clear hb hbox hg) | ((with_reducible refine gate_dst (N := 3) rfl ?_); refine box_event ?hg (N := 3) ?hd (cs := #[.int .u8 a1_0, .int .u8 a1_1, .int .i64 a1_2, .string a1_3, .slice A1_4 l1_4.length c1_4, .slice A1_5 l1_5.length c1_5]) (t := 30) ?hr ?_; (case hd => rfl); (case hg => rfl); (case hr => first | (go_simp; done) | (go_simp; rfl)); intro gb106 hg w21 hbox hb; have n0_ := Aside0.mk (blk_below (g := gb105) (o := .cells #[.int .u8 a0_0, .int .u8 a0_1, .int .i64 a0_2, .string a0_3, .slice A0_4 l0_4.length c0_4, .slice A0_5 l0_5.length c0_5] 30 (0, 0)) (by (with_reducible repeat (first | refine blk_drewN ?_ _ | refine blk_drew ?_ | refine blk_alloc ?_ _)); exact BK105.out) hb); have n1_ := Aside0.mk (below_step (by repeat (first | (with_reducible first | exact HB.out | apply below_alloc | apply pw_below_drewN | apply below_drew1 | refine below_set ?_ GE105.out) | exact HB.out)) hb); have n2_ := Aside0.mk (hbox); have n3_ := Aside0.mk ((by rw [hg]; exact (below_size (by repeat (first | (with_reducible first | exact HB.out | apply below_alloc | apply pw_below_drewN | apply below_drew1 | refine below_set ?_ GE105.out) | exact HB.out))) : w.heap.size ≤ gb106)); have n4_ := Aside0.mk ((by rw [hg]; exact (below_size (by repeat (first | (with_reducible first | exact HB.out | apply below_alloc | apply pw_below_drewN | apply below_drew1 | refine below_set ?_ GE105.out) | exact HB.out))) : w.heap.size ≤ gb106)); have n5_ := Aside0.mk ((by rw [hg]; exact Nat.ne_of_lt (blk_lt (g := gb105) (o := .cells #[.int .u8 a0_0, .int .u8 a0_1, .int .i64 a0_2, .string a0_3, .slice A0_4 l0_4.length c0_4, .slice A0_5 l0_5.length c0_5] 30 (0, 0)) (by (with_reducible repeat (first | refine blk_drewN ?_ _ | refine blk_drew ?_ | refine blk_alloc ?_ _)); exact BK105.out)) : gb105 ≠ gb106)); have n6_ := Aside0.mk ((by rw [hg]; exact Nat.ne_of_gt (blk_lt (g := gb105) (o := .cells #[.int .u8 a0_0, .int .u8 a0_1, .int .i64 a0_2, .string a0_3, .slice A0_4 l0_4.length c0_4, .slice A0_5 l0_5.length c0_5] 30 (0, 0)) (by (with_reducible repeat (first | refine blk_drewN ?_ _ | refine blk_drew ?_ | refine blk_alloc ?_ _)); exact BK105.out)) : gb106 ≠ gb105)); clear BK105; clear HB; have BK105 := n0_; have HB := n1_; have BK106 := n2_; have GW106 := n3_; have GE106 := n4_; have NB105_106 := n5_; have NB106_105 := n6_; clear n0_ n1_ n2_ n3_ n4_ n5_ n6_; clear hb hbox hg; have hnb22 := NB105_106.out; have hnc22 := NB106_105.out; have hcz23_0 : w21.cell? ⟨gb105, 0, none⟩ = some (.int .u8 a0_0) := (blk_cell BK105.out 0).trans rfl; have hcz23_1 : w21.cell? ⟨gb105, 1, none⟩ = some (.int .u8 a0_1) := (blk_cell BK105.out 1).trans rfl; have hcz23_2 : w21.cell? ⟨gb105, 2, none⟩ = some (.int .i64 a0_2) := (blk_cell BK105.out 2).trans rfl; have hcz23_3 : w21.cell? ⟨gb105, 3, none⟩ = some (.string a0_3) := (blk_cell BK105.out 3).trans rfl; have hcz23_4 : w21.cell? ⟨gb105, 4, none⟩ = some (.slice A0_4 l0_4.length c0_4) := (blk_cell BK105.out 4).trans rfl; have hcz23_5 : w21.cell? ⟨gb105, 5, none⟩ = some (.slice A0_5 l0_5.length c0_5) := (blk_cell BK105.out 5).trans rfl; have hfz23_0 := blk_frozen BK105.out 0; have hfz23_1 := blk_frozen BK105.out 1; have hfz23_2 := blk_frozen BK105.out 2; have hfz23_3 := blk_frozen BK105.out 3; have hfz23_4 := blk_frozen BK105.out 4; have hfz23_5 := blk_frozen BK105.out 5; have hcz24_0 : w21.cell? ⟨gb106, 0, none⟩ = some (.int .u8 a1_0) := (blk_cell BK106.out 0).trans rfl; have hcz24_1 : w21.cell? ⟨gb106, 1, none⟩ = some (.int .u8 a1_1) := (blk_cell BK106.out 1).trans rfl; have hcz24_2 : w21.cell? ⟨gb106, 2, none⟩ = some (.int .i64 a1_2) := (blk_cell BK106.out 2).trans rfl; have hcz24_3 : w21.cell? ⟨gb106, 3, none⟩ = some (.string a1_3) := (blk_cell BK106.out 3).trans rfl; have hcz24_4 : w21.cell? ⟨gb106, 4, none⟩ = some (.slice A1_4 l1_4.length c1_4) := (blk_cell BK106.out 4).trans rfl; have hcz24_5 : w21.cell? ⟨gb106, 5, none⟩ = some (.slice A1_5 l1_5.length c1_5) := (blk_cell BK106.out 5).trans rfl; have hfz24_0 := blk_frozen BK106.out 0; have hfz24_1 := blk_frozen BK106.out 1; have hfz24_2 := blk_frozen BK106.out 2; have hfz24_3 := blk_frozen BK106.out 3; have hfz24_4 := blk_frozen BK106.out 4; have hfz24_5 := blk_frozen BK106.out 5))
          go_ret
          exact ⟨by first | rfl | (simp [errW_none, errW_some] <;> rfl) | (simp [*, errW_none, errW_some] <;> rfl), by repeat (first | (with_reducible first | exact HB.out | apply below_alloc | apply pw_below_drewN | apply below_drew1 | refine below_set ?_ GE105.out | refine below_set ?_ GE106.out) | exact HB.out)⟩
      · rw [if_neg c5] at H
        have c5b0 : (a0_2 == a1_2) = false := beq_eq_false_iff_ne.mpr c5
        have c5b1 : (a0_2 != a1_2) = true := bne_iff_ne.mpr c5
        obtain rfl := Option.some.inj H
        go_enter Try.func19, Try.ntmps19
        go_wp2_with (first | ((with_reducible refine gate_dst (N := 2) rfl ?_); refine box_event ?hg (N := 2) ?hd (cs := #[.int .u8 a0_0, .int .u8 a0_1, .int .i64 a0_2, .string a0_3, .slice A0_4 l0_4.length c0_4, .slice A0_5 l0_5.length c0_5]) (t := 30) ?hr ?_; (case hd => rfl); (case hg => rfl); (case hr => first | (go_simp; done) | (go_simp; rfl)); intro gb105 hg w25 hbox hb; have n0_ := Aside0.mk (below_step (by repeat (first | (with_reducible first | exact HB.out | apply below_alloc | apply pw_below_drewN | apply below_drew1) | exact HB.out)) hb); have n1_ := Aside0.mk (hbox); have n2_ := Aside0.mk ((by rw [hg]; exact (below_size (by repeat (first | (with_reducible first | exact HB.out | apply below_alloc | apply pw_below_drewN | apply below_drew1) | exact HB.out))) : w.heap.size ≤ gb105)); have n3_ := Aside0.mk ((by rw [hg]; exact (below_size (by repeat (first | (with_reducible first | exact HB.out | apply below_alloc | apply pw_below_drewN | apply below_drew1) | exact HB.out))) : w.heap.size ≤ gb105)); clear HB; have HB := n0_; have BK105 := n1_; have GW105 := n2_; have GE105 := n3_; clear n0_ n1_ n2_ n3_; clear hb hbox hg) | ((with_reducible refine gate_dst (N := 3) rfl ?_); refine box_event ?hg (N := 3) ?hd (cs := #[.int .u8 a1_0, .int .u8 a1_1, .int .i64 a1_2, .string a1_3, .slice A1_4 l1_4.length c1_4, .slice A1_5 l1_5.length c1_5]) (t := 30) ?hr ?_; (case hd => rfl); (case hg => rfl); (case hr => first | (go_simp; done) | (go_simp; rfl)); intro gb106 hg w26 hbox hb; have n0_ := Aside0.mk (blk_below (g := gb105) (o := .cells #[.int .u8 a0_0, .int .u8 a0_1, .int .i64 a0_2, .string a0_3, .slice A0_4 l0_4.length c0_4, .slice A0_5 l0_5.length c0_5] 30 (0, 0)) (by (with_reducible repeat (first | refine blk_drewN ?_ _ | refine blk_drew ?_ | refine blk_alloc ?_ _)); exact BK105.out) hb); have n1_ := Aside0.mk (below_step (by repeat (first | (with_reducible first | exact HB.out | apply below_alloc | apply pw_below_drewN | apply below_drew1 | refine below_set ?_ GE105.out) | exact HB.out)) hb); have n2_ := Aside0.mk (hbox); have n3_ := Aside0.mk ((by rw [hg]; exact (below_size (by repeat (first | (with_reducible first | exact HB.out | apply below_alloc | apply pw_below_drewN | apply below_drew1 | refine below_set ?_ GE105.out) | exact HB.out))) : w.heap.size ≤ gb106)); have n4_ := Aside0.mk ((by rw [hg]; exact (below_size (by repeat (first | (with_reducible first | exact HB.out | apply below_alloc | apply pw_below_drewN | apply below_drew1 | refine below_set ?_ GE105.out) | exact HB.out))) : w.heap.size ≤ gb106)); have n5_ := Aside0.mk ((by rw [hg]; exact Nat.ne_of_lt (blk_lt (g := gb105) (o := .cells #[.int .u8 a0_0, .int .u8 a0_1, .int .i64 a0_2, .string a0_3, .slice A0_4 l0_4.length c0_4, .slice A0_5 l0_5.length c0_5] 30 (0, 0)) (by (with_reducible repeat (first | refine blk_drewN ?_ _ | refine blk_drew ?_ | refine blk_alloc ?_ _)); exact BK105.out)) : gb105 ≠ gb106)); have n6_ := Aside0.mk ((by rw [hg]; exact Nat.ne_of_gt (blk_lt (g := gb105) (o := .cells #[.int .u8 a0_0, .int .u8 a0_1, .int .i64 a0_2, .string a0_3, .slice A0_4 l0_4.length c0_4, .slice A0_5 l0_5.length c0_5] 30 (0, 0)) (by (with_reducible repeat (first | refine blk_drewN ?_ _ | refine blk_drew ?_ | refine blk_alloc ?_ _)); exact BK105.out)) : gb106 ≠ gb105)); clear BK105; clear HB; have BK105 := n0_; have HB := n1_; have BK106 := n2_; have GW106 := n3_; have GE106 := n4_; have NB105_106 := n5_; have NB106_105 := n6_; clear n0_ n1_ n2_ n3_ n4_ n5_ n6_; clear hb hbox hg; have hnb27 := NB105_106.out; have hnc27 := NB106_105.out; have hcz28_0 : w26.cell? ⟨gb105, 0, none⟩ = some (.int .u8 a0_0) := (blk_cell BK105.out 0).trans rfl; have hcz28_1 : w26.cell? ⟨gb105, 1, none⟩ = some (.int .u8 a0_1) := (blk_cell BK105.out 1).trans rfl; have hcz28_2 : w26.cell? ⟨gb105, 2, none⟩ = some (.int .i64 a0_2) := (blk_cell BK105.out 2).trans rfl; have hcz28_3 : w26.cell? ⟨gb105, 3, none⟩ = some (.string a0_3) := (blk_cell BK105.out 3).trans rfl; have hcz28_4 : w26.cell? ⟨gb105, 4, none⟩ = some (.slice A0_4 l0_4.length c0_4) := (blk_cell BK105.out 4).trans rfl; have hcz28_5 : w26.cell? ⟨gb105, 5, none⟩ = some (.slice A0_5 l0_5.length c0_5) := (blk_cell BK105.out 5).trans rfl; have hfz28_0 := blk_frozen BK105.out 0; have hfz28_1 := blk_frozen BK105.out 1; have hfz28_2 := blk_frozen BK105.out 2; have hfz28_3 := blk_frozen BK105.out 3; have hfz28_4 := blk_frozen BK105.out 4; have hfz28_5 := blk_frozen BK105.out 5; have hcz29_0 : w26.cell? ⟨gb106, 0, none⟩ = some (.int .u8 a1_0) := (blk_cell BK106.out 0).trans rfl; have hcz29_1 : w26.cell? ⟨gb106, 1, none⟩ = some (.int .u8 a1_1) := (blk_cell BK106.out 1).trans rfl; have hcz29_2 : w26.cell? ⟨gb106, 2, none⟩ = some (.int .i64 a1_2) := (blk_cell BK106.out 2).trans rfl; have hcz29_3 : w26.cell? ⟨gb106, 3, none⟩ = some (.string a1_3) := (blk_cell BK106.out 3).trans rfl; have hcz29_4 : w26.cell? ⟨gb106, 4, none⟩ = some (.slice A1_4 l1_4.length c1_4) := (blk_cell BK106.out 4).trans rfl; have hcz29_5 : w26.cell? ⟨gb106, 5, none⟩ = some (.slice A1_5 l1_5.length c1_5) := (blk_cell BK106.out 5).trans rfl; have hfz29_0 := blk_frozen BK106.out 0; have hfz29_1 := blk_frozen BK106.out 1; have hfz29_2 := blk_frozen BK106.out 2; have hfz29_3 := blk_frozen BK106.out 3; have hfz29_4 := blk_frozen BK106.out 4; have hfz29_5 := blk_frozen BK106.out 5))
        go_ret
        exact ⟨by first | rfl | (simp [errW_none, errW_some] <;> rfl) | (simp [*, errW_none, errW_some] <;> rfl), by repeat (first | (with_reducible first | exact HB.out | apply below_alloc | apply pw_below_drewN | apply below_drew1 | refine below_set ?_ GE105.out | refine below_set ?_ GE106.out) | exact HB.out)⟩
    · rw [if_neg c4] at H
      have c4b0 : (a0_1 == a1_1) = false := beq_eq_false_iff_ne.mpr c4
      have c4b1 : (a0_1 != a1_1) = true := bne_iff_ne.mpr c4
      obtain rfl := Option.some.inj H
      go_enter Try.func19, Try.ntmps19
      go_wp2_with (first | ((with_reducible refine gate_dst (N := 2) rfl ?_); refine box_event ?hg (N := 2) ?hd (cs := #[.int .u8 a0_0, .int .u8 a0_1, .int .i64 a0_2, .string a0_3, .slice A0_4 l0_4.length c0_4, .slice A0_5 l0_5.length c0_5]) (t := 30) ?hr ?_; (case hd => rfl); (case hg => rfl); (case hr => first | (go_simp; done) | (go_simp; rfl)); intro gb105 hg w30 hbox hb; have n0_ := Aside0.mk (below_step (by repeat (first | (with_reducible first | exact HB.out | apply below_alloc | apply pw_below_drewN | apply below_drew1) | exact HB.out)) hb); have n1_ := Aside0.mk (hbox); have n2_ := Aside0.mk ((by rw [hg]; exact (below_size (by repeat (first | (with_reducible first | exact HB.out | apply below_alloc | apply pw_below_drewN | apply below_drew1) | exact HB.out))) : w.heap.size ≤ gb105)); have n3_ := Aside0.mk ((by rw [hg]; exact (below_size (by repeat (first | (with_reducible first | exact HB.out | apply below_alloc | apply pw_below_drewN | apply below_drew1) | exact HB.out))) : w.heap.size ≤ gb105)); clear HB; have HB := n0_; have BK105 := n1_; have GW105 := n2_; have GE105 := n3_; clear n0_ n1_ n2_ n3_; clear hb hbox hg) | ((with_reducible refine gate_dst (N := 3) rfl ?_); refine box_event ?hg (N := 3) ?hd (cs := #[.int .u8 a1_0, .int .u8 a1_1, .int .i64 a1_2, .string a1_3, .slice A1_4 l1_4.length c1_4, .slice A1_5 l1_5.length c1_5]) (t := 30) ?hr ?_; (case hd => rfl); (case hg => rfl); (case hr => first | (go_simp; done) | (go_simp; rfl)); intro gb106 hg w31 hbox hb; have n0_ := Aside0.mk (blk_below (g := gb105) (o := .cells #[.int .u8 a0_0, .int .u8 a0_1, .int .i64 a0_2, .string a0_3, .slice A0_4 l0_4.length c0_4, .slice A0_5 l0_5.length c0_5] 30 (0, 0)) (by (with_reducible repeat (first | refine blk_drewN ?_ _ | refine blk_drew ?_ | refine blk_alloc ?_ _)); exact BK105.out) hb); have n1_ := Aside0.mk (below_step (by repeat (first | (with_reducible first | exact HB.out | apply below_alloc | apply pw_below_drewN | apply below_drew1 | refine below_set ?_ GE105.out) | exact HB.out)) hb); have n2_ := Aside0.mk (hbox); have n3_ := Aside0.mk ((by rw [hg]; exact (below_size (by repeat (first | (with_reducible first | exact HB.out | apply below_alloc | apply pw_below_drewN | apply below_drew1 | refine below_set ?_ GE105.out) | exact HB.out))) : w.heap.size ≤ gb106)); have n4_ := Aside0.mk ((by rw [hg]; exact (below_size (by repeat (first | (with_reducible first | exact HB.out | apply below_alloc | apply pw_below_drewN | apply below_drew1 | refine below_set ?_ GE105.out) | exact HB.out))) : w.heap.size ≤ gb106)); have n5_ := Aside0.mk ((by rw [hg]; exact Nat.ne_of_lt (blk_lt (g := gb105) (o := .cells #[.int .u8 a0_0, .int .u8 a0_1, .int .i64 a0_2, .string a0_3, .slice A0_4 l0_4.length c0_4, .slice A0_5 l0_5.length c0_5] 30 (0, 0)) (by (with_reducible repeat (first | refine blk_drewN ?_ _ | refine blk_drew ?_ | refine blk_alloc ?_ _)); exact BK105.out)) : gb105 ≠ gb106)); have n6_ := Aside0.mk ((by rw [hg]; exact Nat.ne_of_gt (blk_lt (g := gb105) (o := .cells #[.int .u8 a0_0, .int .u8 a0_1, .int .i64 a0_2, .string a0_3, .slice A0_4 l0_4.length c0_4, .slice A0_5 l0_5.length c0_5] 30 (0, 0)) (by (with_reducible repeat (first | refine blk_drewN ?_ _ | refine blk_drew ?_ | refine blk_alloc ?_ _)); exact BK105.out)) : gb106 ≠ gb105)); clear BK105; clear HB; have BK105 := n0_; have HB := n1_; have BK106 := n2_; have GW106 := n3_; have GE106 := n4_; have NB105_106 := n5_; have NB106_105 := n6_; clear n0_ n1_ n2_ n3_ n4_ n5_ n6_; clear hb hbox hg; have hnb32 := NB105_106.out; have hnc32 := NB106_105.out; have hcz33_0 : w31.cell? ⟨gb105, 0, none⟩ = some (.int .u8 a0_0) := (blk_cell BK105.out 0).trans rfl; have hcz33_1 : w31.cell? ⟨gb105, 1, none⟩ = some (.int .u8 a0_1) := (blk_cell BK105.out 1).trans rfl; have hcz33_2 : w31.cell? ⟨gb105, 2, none⟩ = some (.int .i64 a0_2) := (blk_cell BK105.out 2).trans rfl; have hcz33_3 : w31.cell? ⟨gb105, 3, none⟩ = some (.string a0_3) := (blk_cell BK105.out 3).trans rfl; have hcz33_4 : w31.cell? ⟨gb105, 4, none⟩ = some (.slice A0_4 l0_4.length c0_4) := (blk_cell BK105.out 4).trans rfl; have hcz33_5 : w31.cell? ⟨gb105, 5, none⟩ = some (.slice A0_5 l0_5.length c0_5) := (blk_cell BK105.out 5).trans rfl; have hfz33_0 := blk_frozen BK105.out 0; have hfz33_1 := blk_frozen BK105.out 1; have hfz33_2 := blk_frozen BK105.out 2; have hfz33_3 := blk_frozen BK105.out 3; have hfz33_4 := blk_frozen BK105.out 4; have hfz33_5 := blk_frozen BK105.out 5; have hcz34_0 : w31.cell? ⟨gb106, 0, none⟩ = some (.int .u8 a1_0) := (blk_cell BK106.out 0).trans rfl; have hcz34_1 : w31.cell? ⟨gb106, 1, none⟩ = some (.int .u8 a1_1) := (blk_cell BK106.out 1).trans rfl; have hcz34_2 : w31.cell? ⟨gb106, 2, none⟩ = some (.int .i64 a1_2) := (blk_cell BK106.out 2).trans rfl; have hcz34_3 : w31.cell? ⟨gb106, 3, none⟩ = some (.string a1_3) := (blk_cell BK106.out 3).trans rfl; have hcz34_4 : w31.cell? ⟨gb106, 4, none⟩ = some (.slice A1_4 l1_4.length c1_4) := (blk_cell BK106.out 4).trans rfl; have hcz34_5 : w31.cell? ⟨gb106, 5, none⟩ = some (.slice A1_5 l1_5.length c1_5) := (blk_cell BK106.out 5).trans rfl; have hfz34_0 := blk_frozen BK106.out 0; have hfz34_1 := blk_frozen BK106.out 1; have hfz34_2 := blk_frozen BK106.out 2; have hfz34_3 := blk_frozen BK106.out 3; have hfz34_4 := blk_frozen BK106.out 4; have hfz34_5 := blk_frozen BK106.out 5))
      go_ret
      exact ⟨by first | rfl | (simp [errW_none, errW_some] <;> rfl) | (simp [*, errW_none, errW_some] <;> rfl), by repeat (first | (with_reducible first | exact HB.out | apply below_alloc | apply pw_below_drewN | apply below_drew1 | refine below_set ?_ GE105.out | refine below_set ?_ GE106.out) | exact HB.out)⟩
  · rw [if_neg c3] at H
    have c3b0 : (a0_0 == a1_0) = false := beq_eq_false_iff_ne.mpr c3
    have c3b1 : (a0_0 != a1_0) = true := bne_iff_ne.mpr c3
    obtain rfl := Option.some.inj H
    go_enter Try.func19, Try.ntmps19
    go_wp2_with (first | ((with_reducible refine gate_dst (N := 2) rfl ?_); refine box_event ?hg (N := 2) ?hd (cs := #[.int .u8 a0_0, .int .u8 a0_1, .int .i64 a0_2, .string a0_3, .slice A0_4 l0_4.length c0_4, .slice A0_5 l0_5.length c0_5]) (t := 30) ?hr ?_; (case hd => rfl); (case hg => rfl); (case hr => first | (go_simp; done) | (go_simp; rfl)); intro gb105 hg w35 hbox hb; have n0_ := Aside0.mk (below_step (by repeat (first | (with_reducible first | exact HB.out | apply below_alloc | apply pw_below_drewN | apply below_drew1) | exact HB.out)) hb); have n1_ := Aside0.mk (hbox); have n2_ := Aside0.mk ((by rw [hg]; exact (below_size (by repeat (first | (with_reducible first | exact HB.out | apply below_alloc | apply pw_below_drewN | apply below_drew1) | exact HB.out))) : w.heap.size ≤ gb105)); have n3_ := Aside0.mk ((by rw [hg]; exact (below_size (by repeat (first | (with_reducible first | exact HB.out | apply below_alloc | apply pw_below_drewN | apply below_drew1) | exact HB.out))) : w.heap.size ≤ gb105)); clear HB; have HB := n0_; have BK105 := n1_; have GW105 := n2_; have GE105 := n3_; clear n0_ n1_ n2_ n3_; clear hb hbox hg) | ((with_reducible refine gate_dst (N := 3) rfl ?_); refine box_event ?hg (N := 3) ?hd (cs := #[.int .u8 a1_0, .int .u8 a1_1, .int .i64 a1_2, .string a1_3, .slice A1_4 l1_4.length c1_4, .slice A1_5 l1_5.length c1_5]) (t := 30) ?hr ?_; (case hd => rfl); (case hg => rfl); (case hr => first | (go_simp; done) | (go_simp; rfl)); intro gb106 hg w36 hbox hb; have n0_ := Aside0.mk (blk_below (g := gb105) (o := .cells #[.int .u8 a0_0, .int .u8 a0_1, .int .i64 a0_2, .string a0_3, .slice A0_4 l0_4.length c0_4, .slice A0_5 l0_5.length c0_5] 30 (0, 0)) (by (with_reducible repeat (first | refine blk_drewN ?_ _ | refine blk_drew ?_ | refine blk_alloc ?_ _)); exact BK105.out) hb); have n1_ := Aside0.mk (below_step (by repeat (first | (with_reducible first | exact HB.out | apply below_alloc | apply pw_below_drewN | apply below_drew1 | refine below_set ?_ GE105.out) | exact HB.out)) hb); have n2_ := Aside0.mk (hbox); have n3_ := Aside0.mk ((by rw [hg]; exact (below_size (by repeat (first | (with_reducible first | exact HB.out | apply below_alloc | apply pw_below_drewN | apply below_drew1 | refine below_set ?_ GE105.out) | exact HB.out))) : w.heap.size ≤ gb106)); have n4_ := Aside0.mk ((by rw [hg]; exact (below_size (by repeat (first | (with_reducible first | exact HB.out | apply below_alloc | apply pw_below_drewN | apply below_drew1 | refine below_set ?_ GE105.out) | exact HB.out))) : w.heap.size ≤ gb106)); have n5_ := Aside0.mk ((by rw [hg]; exact Nat.ne_of_lt (blk_lt (g := gb105) (o := .cells #[.int .u8 a0_0, .int .u8 a0_1, .int .i64 a0_2, .string a0_3, .slice A0_4 l0_4.length c0_4, .slice A0_5 l0_5.length c0_5] 30 (0, 0)) (by (with_reducible repeat (first | refine blk_drewN ?_ _ | refine blk_drew ?_ | refine blk_alloc ?_ _)); exact BK105.out)) : gb105 ≠ gb106)); have n6_ := Aside0.mk ((by rw [hg]; exact Nat.ne_of_gt (blk_lt (g := gb105) (o := .cells #[.int .u8 a0_0, .int .u8 a0_1, .int .i64 a0_2, .string a0_3, .slice A0_4 l0_4.length c0_4, .slice A0_5 l0_5.length c0_5] 30 (0, 0)) (by (with_reducible repeat (first | refine blk_drewN ?_ _ | refine blk_drew ?_ | refine blk_alloc ?_ _)); exact BK105.out)) : gb106 ≠ gb105)); clear BK105; clear HB; have BK105 := n0_; have HB := n1_; have BK106 := n2_; have GW106 := n3_; have GE106 := n4_; have NB105_106 := n5_; have NB106_105 := n6_; clear n0_ n1_ n2_ n3_ n4_ n5_ n6_; clear hb hbox hg; have hnb37 := NB105_106.out; have hnc37 := NB106_105.out; have hcz38_0 : w36.cell? ⟨gb105, 0, none⟩ = some (.int .u8 a0_0) := (blk_cell BK105.out 0).trans rfl; have hcz38_1 : w36.cell? ⟨gb105, 1, none⟩ = some (.int .u8 a0_1) := (blk_cell BK105.out 1).trans rfl; have hcz38_2 : w36.cell? ⟨gb105, 2, none⟩ = some (.int .i64 a0_2) := (blk_cell BK105.out 2).trans rfl; have hcz38_3 : w36.cell? ⟨gb105, 3, none⟩ = some (.string a0_3) := (blk_cell BK105.out 3).trans rfl; have hcz38_4 : w36.cell? ⟨gb105, 4, none⟩ = some (.slice A0_4 l0_4.length c0_4) := (blk_cell BK105.out 4).trans rfl; have hcz38_5 : w36.cell? ⟨gb105, 5, none⟩ = some (.slice A0_5 l0_5.length c0_5) := (blk_cell BK105.out 5).trans rfl; have hfz38_0 := blk_frozen BK105.out 0; have hfz38_1 := blk_frozen BK105.out 1; have hfz38_2 := blk_frozen BK105.out 2; have hfz38_3 := blk_frozen BK105.out 3; have hfz38_4 := blk_frozen BK105.out 4; have hfz38_5 := blk_frozen BK105.out 5; have hcz39_0 : w36.cell? ⟨gb106, 0, none⟩ = some (.int .u8 a1_0) := (blk_cell BK106.out 0).trans rfl; have hcz39_1 : w36.cell? ⟨gb106, 1, none⟩ = some (.int .u8 a1_1) := (blk_cell BK106.out 1).trans rfl; have hcz39_2 : w36.cell? ⟨gb106, 2, none⟩ = some (.int .i64 a1_2) := (blk_cell BK106.out 2).trans rfl; have hcz39_3 : w36.cell? ⟨gb106, 3, none⟩ = some (.string a1_3) := (blk_cell BK106.out 3).trans rfl; have hcz39_4 : w36.cell? ⟨gb106, 4, none⟩ = some (.slice A1_4 l1_4.length c1_4) := (blk_cell BK106.out 4).trans rfl; have hcz39_5 : w36.cell? ⟨gb106, 5, none⟩ = some (.slice A1_5 l1_5.length c1_5) := (blk_cell BK106.out 5).trans rfl; have hfz39_0 := blk_frozen BK106.out 0; have hfz39_1 := blk_frozen BK106.out 1; have hfz39_2 := blk_frozen BK106.out 2; have hfz39_3 := blk_frozen BK106.out 3; have hfz39_4 := blk_frozen BK106.out 4; have hfz39_5 := blk_frozen BK106.out 5))
    go_ret
    exact ⟨by first | rfl | (simp [errW_none, errW_some] <;> rfl) | (simp [*, errW_none, errW_some] <;> rfl), by repeat (first | (with_reducible first | exact HB.out | apply below_alloc | apply pw_below_drewN | apply below_drew1 | refine below_set ?_ GE105.out | refine below_set ?_ GE106.out) | exact HB.out)⟩

end Go.Proofs.Ytnhkbjihgepapaa.PF
-- printed by wprint.py (this session's program over the kit's print.py)
namespace Go.Proofs.Ytnhkbjihgepapaa.PF
open Go.RowKit Go.Proofs.YtnhkbjihgepapaaW.PrintWords Go.Proofs.YtnhkbjihgepapaaW.PrintLast Go.Proofs.YtnhkbjihgepapaaW.PrintMore
attribute [local go_sem] max2_int min2_int max_two min_two max_three min_three max_four min_four   -- for this text's walks alone
set_option linter.unusedVariables false
set_option linter.unusedSimpArgs false

/-! ### musterlow_SameBytes: function 9 -/
def musterlow_SameBytes.f (l0 : List Int) (l1 : List Int) : Option (Bool) := some ((strOfNums l0).toList == (strOfNums l1).toList)
set_option maxHeartbeats 8000000 in
set_option maxRecDepth 100000 in
theorem musterlow_SameBytes.calls (A0 : Option Addr) (c0 : Nat) (l0 : List Int) (A1 : Option Addr) (c1 : Nat) (l1 : List Int) (r : Bool) (w : World) (hr0 : Kd.C (Kd.int .u8) w A0 l0.length l0) (hc0 : l0.length ≤ c0) (hr1 : Kd.C (Kd.int .u8) w A1 l1.length l1) (hc1 : l1.length ≤ c1) (h : musterlow_SameBytes.f l0 l1 = some r) :
    Calls Try.prog 9 #[.slice A0 l0.length c0, .slice A1 l1.length c1] w fun e w' => e = .returned (.bool r) ∧ Drawn0 w w' := by
  have HR0 := Aside0.mk hr0
  have HC0 := Aside0.mk hc0
  clear hr0 hc0
  have HR1 := Aside0.mk hr1
  have HC1 := Aside0.mk hc1
  clear hr1 hc1
  have H : (some ((strOfNums l0).toList == (strOfNums l1).toList)) = some r := h
  clear h
  obtain rfl := Option.some.inj H
  have hcv3 := Kd.C_string (P := Try.prog) (A := A0) (c := c0) Try.underlying22 Try.underlying5 Try.underlying9 HR0.out
  have hcv4 := Kd.C_string (P := Try.prog) (A := A1) (c := c1) Try.underlying22 Try.underlying5 Try.underlying9 HR1.out
  go_enter Try.func9, Try.ntmps9
  go_wp2
  go_ret
  exact ⟨by first | rfl | (simp; done) | (simp [*]; done), by repeat (first | exact Drawn0.refl _ | apply Drawn0.step)⟩

/-- THE ONE PURE STATEMENT of musterlow_SameBytes: yours. -/
def musterlow_SameBytes.Pure : Prop := ∀ (l0 : List Int) (l1 : List Int), l0.length ≤ maxLen → l0.length * 1 ≤ 140737488351232 → (∀ x ∈ l0, (Lit.int .u8 x).wf = true) → l1.length ≤ maxLen → l1.length * 1 ≤ 140737488351232 → (∀ x ∈ l1, (Lit.int .u8 x).wf = true) → musterlow_SameBytes.f l0 l1 = some true
theorem musterlow_SameBytes.walk (P : musterlow_SameBytes.Pure) (a0 : Option Addr) (len0 cap0 : Nat) (z0 : List Int) (a1 : Option Addr) (len1 cap1 : Nat) (z1 : List Int) (w : World) (w0 : (a0 = none ∧ len0 = 0 ∧ cap0 = 0 ∧ z0 = []) ∨ ∃ x, a0 = some x ∧ len0 ≤ cap0 ∧ cap0 ≤ maxLen ∧ z0.length = cap0 ∧ (∀ i, i < z0.length → w.cell? (x.add i) = some (.int .u8 (z0.getD i 0))) ∧ ∀ n ∈ z0, (Lit.int .u8 n).wf = true) (y0 : len0 * 1 ≤ 140737488351232) (w1 : (a1 = none ∧ len1 = 0 ∧ cap1 = 0 ∧ z1 = []) ∨ ∃ x, a1 = some x ∧ len1 ≤ cap1 ∧ cap1 ≤ maxLen ∧ z1.length = cap1 ∧ (∀ i, i < z1.length → w.cell? (x.add i) = some (.int .u8 (z1.getD i 0))) ∧ ∀ n ∈ z1, (Lit.int .u8 n).wf = true) (y1 : len1 * 1 ≤ 140737488351232) :
    Calls Try.prog 9 #[.slice a0 len0 cap0, .slice a1 len1 cap1] w fun e w' => e = .returned (.bool true) ∧ Below w.heap.size w w' := by
  obtain ⟨l0, rfl, hr0, hm0, hw0, hc0⟩ := ReadsInt.ofRowC w0
  obtain ⟨l1, rfl, hr1, hm1, hw1, hc1⟩ := ReadsInt.ofRowC w1
  have h := P l0 l1 hm0 y0 hw0 hm1 y1 hw1
  refine (musterlow_SameBytes.calls _ _ l0 _ _ l1 true w (Kd.C_of_reads (d := (0 : Int)) (h1 := fun _ => rfl) hr0) hc0 (Kd.C_of_reads (d := (0 : Int)) (h1 := fun _ => rfl) hr1) hc1 h).mono ?_
  rintro e w' ⟨rfl, hd⟩
  exact ⟨rfl, hd.below⟩

/-! ### musterlow_CopyBytes: function 25 -/
/-! ### musterlow_Pick: function 24 -/
-- NOT PRINTED: function 56 (slices_IndexFunc_string_string)

-- NOT PRINTED: function 49 (slices_ContainsFunc_string_string)

end Go.Proofs.Ytnhkbjihgepapaa.PF
/- field.All. -/
set_option linter.unusedVariables false
set_option linter.unusedSimpArgs false
namespace Go.Proofs.Ytnhkbjihgepapaa.Fd
open Go.RowKit Go.Proofs.YtnhkbjihgepapaaW.PrintWords Go.Proofs.YtnhkbjihgepapaaW.PrintLast Go.Proofs.YtnhkbjihgepapaaW.PrintMore Go.Proofs.Ytnhkbjihgepapaa.PF Go.Proofs.Ytnhkbjihgepapaa.Oct Go.Proofs.Ytnhkbjihgepapaa.Gen
def field_All.T20 : Bool × List (List Nat × List Nat) := (true, [([], []), ([0], [0]), ([], []), ([2], [2]), ([3], [3]), ([4], [4]), ([1, 5, 3], [1, 5]), ([0, 1, 2, 3, 4, 5, 6], []), ([7, 6, 6, 0, 1, 2, 3, 4, 5, 6], [6, 7])])
def field_All.B20 : List Nat := [0, 1, 0, 4, 12, 28, 63, 127, 255]
theorem field_All.tab20 : rtab .any (opsOf Try.f11 20) = field_All.T20 := by kernel_rfl
theorem field_All.bits20 : waitsOk field_All.T20.2 field_All.B20 = true := by kernel_rfl
def field_All.T25 : Bool × List (List Nat × List Nat) := (true, [([], []), ([0], [0]), ([], []), ([2], [2]), ([3], [3]), ([1, 4, 3], [1, 4]), ([0, 1, 2, 3, 4, 5], []), ([6, 5, 5, 0, 1, 2, 3, 4, 5], [5, 6])])
def field_All.B25 : List Nat := [0, 1, 0, 4, 12, 31, 63, 127]
theorem field_All.tab25 : rtab .any (opsOf Try.f11 25) = field_All.T25 := by kernel_rfl
theorem field_All.bits25 : waitsOk field_All.T25.2 field_All.B25 = true := by kernel_rfl
section
variable {P : Program} {ops : Array Oper} {Q : Exit → Act → World → Prop}
/-- A closure's value is called. -/
theorem goesC_ {oi : Oper} {N : Option Tmp} {a : Act} {w : World} {K : Act → World → Prop} {f : FuncId} {fn : Func} {as' : Array Operand} {ts : Array TypeId} (x : Operand) (caps all : Array Value) (hf : P.funcs[f]? = some fn) (hname : (fn.name == "runtime.NumGoroutine") = false) (hb : fn.body.isSome = true) (args : Array Value) (hall : args ++ caps = all)
    (hw : Region.wanted oi (yielded ops a.tmps) = true) (hN : oi.dst = N) (hop : oi.op = .call { callee := .value x, args := as', argTypes := ts }) (hx : a.eval x = .func (.func f) #[] caps) (hargs : as'.map a.eval = args)
    (h : Calls P f all w fun e w' => ∃ v, e = .returned v ∧ K (a.put N v) w') : if Region.wanted oi (yielded ops a.tmps) = true then Oper.wp P oi a w K Q else K (a.put N undef) w := by
  subst hall
  refine call_ f (args ++ caps) hw hN ?_ h
  have he := enters_ hf hname hb (args ++ caps) w
  unfold execOp
  simp [hop, resolve, Deferred.ofValue, invoke, hx, hargs, he]
end
theorem infoI64 : (Try.prog.info? 2).map (fun i => (i.zero, i.size, i.bytes)) = some (some (.int .i64 0), 1, 8) := by kernel_rfl
theorem infoStr : (Try.prog.info? 9).map (fun i => (i.zero, i.size, i.bytes)) = some (some (.string ⟨#[]⟩), 1, 16) := by kernel_rfl
theorem infoFl : (Try.prog.info? 30).map (·.size) = some 6 := by kernel_rfl
def fldC (tag kind nn : Int) (s : ByteArray) (v4 v5 : Value) : Array Value := #[.int .u8 tag, .int .u8 kind, .int .i64 nn, .string s, v4, v5]
/-- The field that is being read. -/
structure FM (w W0 W : World) (bB bA bD gF : Nat) (A : Option Addr) (n c : Nat) (p : Int) (bad : Bool) (tag kind nn : Int) (s : ByteArray) (v4 v5 : Value) (ns : List Int) (ts : List ByteArray) : Prop where
  am : AM w W bB bA bD A n c p bad
  lB : bB < W0.heap.size
  lA : bA < W0.heap.size
  lD : bD < W0.heap.size
  w0 : w.heap.size ≤ W0.heap.size
  box : W.heap[gF]? = some (.cells (fldC tag kind nn s v4 v5) 30 (0, 0))
  ge : W0.heap.size ≤ gF
  r4 : Kd.R (Kd.int .i64) 2 W w.heap.size (fun k => W0.heap.size ≤ k ∧ k ≠ gF) v4 ns
  r5 : Kd.R Kd.string 9 W w.heap.size (fun k => W0.heap.size ≤ k ∧ k ≠ gF) v5 ts
  kept : Kept W0 W (SAD bA bD)
section
variable {w W0 W W2 : World} {bB bA bD gF : Nat} {A : Option Addr} {n c : Nat} {p q : Int} {bad bad2 : Bool} {tag kind nn : Int} {s : ByteArray} {v4 v5 : Value} {ns : List Int} {ts : List ByteArray}
theorem FM.lt (h : FM w W0 W bB bA bD gF A n c p bad tag kind nn s v4 v5 ns ts) : gF < W.heap.size := blk_lt h.box
theorem FM.nSAD (h : FM w W0 W bB bA bD gF A n c p bad tag kind nn s v4 v5 ns ts) {k : Nat} (hk : W0.heap.size ≤ k) : ¬ SAD bA bD k := fun e => by
  have h1 := h.lA
  have h2 := h.lD
  rcases e with rfl | rfl <;> omega
theorem FM.call (h : FM w W0 W bB bA bD gF A n c p bad tag kind nn s v4 v5 ns ts) (ha : AM w W2 bB bA bD A n c q bad2) (hk : Kept W W2 (SAD bA bD)) : FM w W0 W2 bB bA bD gF A n c q bad2 tag kind nn s v4 v5 ns ts :=
  ⟨ha, h.lB, h.lA, h.lD, h.w0, (hk.2 _ (blk_lt h.box) (h.nSAD h.ge)).trans h.box, h.ge, Kd.R_kept h.r4 hk (fun k hk => h.nSAD hk.1), Kd.R_kept h.r5 hk (fun k hk => h.nSAD hk.1), h.kept.then_ hk (fun _ e => Or.inl e)⟩
theorem FM.setN (h : FM w W0 W bB bA bD gF A n c p bad tag kind nn s v4 v5 ns ts) (x : Int) : FM w W0 (W.setCell ⟨gF, 2, none⟩ (.int .i64 x)) bB bA bD gF A n c p bad tag kind x s v4 v5 ns ts :=
  have hg : w.heap.size ≤ gF := Nat.le_trans h.w0 h.ge
  have hn := h.nSAD h.ge
  ⟨⟨below_set h.am.bel hg, h.am.gB, h.am.gA, h.am.gD, h.am.nBA, h.am.nBD, h.am.nAD, blk_far h.am.B (fun e => by have h1 := h.lB; have h2 := h.ge; have e' : bB = gF := e; omega) _, blk_far h.am.a (fun e => hn (Or.inl e.symm)) _, blk_far h.am.d (fun e => hn (Or.inr e.symm)) _⟩, h.lB, h.lA, h.lD, h.w0, blk_set h.box 2 _, h.ge, Kd.R_far h.r4 (fun k hk => hk.2) _, Kd.R_far h.r5 (fun k hk => hk.2) _, h.kept.setCell (Or.inr h.ge) _⟩
theorem FM.below (h : FM w W0 W bB bA bD gF A n c p bad tag kind nn s v4 v5 ns ts) (hb : Below W.heap.size W W2) : FM w W0 W2 bB bA bD gF A n c p bad tag kind nn s v4 v5 ns ts :=
  ⟨h.am.below hb, h.lB, h.lA, h.lD, h.w0, blk_below h.box hb, h.ge, Kd.R_below h.r4 hb, Kd.R_below h.r5 hb, h.kept.below hb⟩
theorem FM.far (h : FM w W0 W bB bA bD gF A n c p bad tag kind nn s v4 v5 ns ts) (u : Value) (i : Nat) : AM w (W.setCell ⟨gF, i, none⟩ u) bB bA bD A n c p bad :=
  have hg : w.heap.size ≤ gF := Nat.le_trans h.w0 h.ge
  have hn := h.nSAD h.ge
  ⟨below_set h.am.bel hg, h.am.gB, h.am.gA, h.am.gD, h.am.nBA, h.am.nBD, h.am.nAD, blk_far h.am.B (fun e => by have h1 := h.lB; have h2 := h.ge; have e' : bB = gF := e; omega) _, blk_far h.am.a (fun e => hn (Or.inl e.symm)) _, blk_far h.am.d (fun e => hn (Or.inr e.symm)) _⟩
theorem FM.setT (h : FM w W0 W bB bA bD gF A n c p bad tag kind nn s v4 v5 ns ts) (x : ByteArray) : FM w W0 (W.setCell ⟨gF, 3, none⟩ (.string x)) bB bA bD gF A n c p bad tag kind nn x v4 v5 ns ts :=
  ⟨h.far _ 3, h.lB, h.lA, h.lD, h.w0, blk_set h.box 3 _, h.ge, Kd.R_far h.r4 (fun k hk => hk.2) _, Kd.R_far h.r5 (fun k hk => hk.2) _, h.kept.setCell (Or.inr h.ge) _⟩
/-- Behind an append to what the field leads to. -/
theorem FM.grow (h : FM w W0 W bB bA bD gF A n c p bad tag kind nn s v4 v5 ns ts) {row : Option Nat} (hrow : ∀ k, row = some k → W0.heap.size ≤ k ∧ k ≠ gF) (hg : W.grownBy W2 row) (hb : Below w.heap.size w W2) : AM w W2 bB bA bD A n c p bad ∧ W2.heap[gF]? = some (.cells (fldC tag kind nn s v4 v5) 30 (0, 0)) ∧ Kept W0 W2 (SAD bA bD) := by
  have hne : ∀ k, k < W0.heap.size → some k ≠ row := fun k hk e => by have := (hrow k e.symm).1; omega
  have hbk : ∀ (k : Nat) (o : Obj), W.heap[k]? = some o → k < W0.heap.size → W2.heap[k]? = some o := fun k o ho hk => (hg.block k (blk_lt ho) (hne k hk)).trans ho
  exact ⟨⟨hb, h.am.gB, h.am.gA, h.am.gD, h.am.nBA, h.am.nBD, h.am.nAD, hbk _ _ h.am.B h.lB, hbk _ _ h.am.a h.lA, hbk _ _ h.am.d h.lD⟩, (hg.block gF (blk_lt h.box) (fun e => (hrow gF e.symm).2 rfl)).trans h.box, h.kept.of_grown hg (fun k hk => Or.inr (hrow k hk).1)⟩
theorem FM.grow4 (h : FM w W0 W bB bA bD gF A n c p bad tag kind nn s v4 (.slice none 0 0) ns []) {v4' : Value} {ns' : List Int} (hg : W.grownBy W2 v4.ownBlock) (hb : Below w.heap.size w W2) (hr : Kd.R (Kd.int .i64) 2 W2 w.heap.size (fun k => W0.heap.size ≤ k ∧ k ≠ gF) v4' ns') : FM w W0 (W2.setCell ⟨gF, 4, none⟩ v4') bB bA bD gF A n c p bad tag kind nn s v4' (.slice none 0 0) ns' [] := by
  obtain ⟨ha, hx, hk⟩ := h.grow (row := v4.ownBlock) h.r4.1 hg hb
  have hgF : w.heap.size ≤ gF := Nat.le_trans h.w0 h.ge
  have hn := h.nSAD h.ge
  exact ⟨⟨below_set ha.bel hgF, ha.gB, ha.gA, ha.gD, ha.nBA, ha.nBD, ha.nAD, blk_far ha.B (fun e => by have h1 := h.lB; have h2 := h.ge; have e' : bB = gF := e; omega) _, blk_far ha.a (fun e => hn (Or.inl e.symm)) _, blk_far ha.d (fun e => hn (Or.inr e.symm)) _⟩, h.lB, h.lA, h.lD, h.w0, blk_set hx 4 _, h.ge, Kd.R_far hr (fun k hk => hk.2) _, Kd.R_nil _ _ _ _ _, hk.setCell (Or.inr h.ge) _⟩
theorem FM.grow5 (h : FM w W0 W bB bA bD gF A n c p bad tag kind nn s (.slice none 0 0) v5 [] ts) {v5' : Value} {ts' : List ByteArray} (hg : W.grownBy W2 v5.ownBlock) (hb : Below w.heap.size w W2) (hr : Kd.R Kd.string 9 W2 w.heap.size (fun k => W0.heap.size ≤ k ∧ k ≠ gF) v5' ts') : FM w W0 (W2.setCell ⟨gF, 5, none⟩ v5') bB bA bD gF A n c p bad tag kind nn s (.slice none 0 0) v5' [] ts' := by
  obtain ⟨ha, hx, hk⟩ := h.grow (row := v5.ownBlock) h.r5.1 hg hb
  have hgF : w.heap.size ≤ gF := Nat.le_trans h.w0 h.ge
  have hn := h.nSAD h.ge
  exact ⟨⟨below_set ha.bel hgF, ha.gB, ha.gA, ha.gD, ha.nBA, ha.nBD, ha.nAD, blk_far ha.B (fun e => by have h1 := h.lB; have h2 := h.ge; have e' : bB = gF := e; omega) _, blk_far ha.a (fun e => hn (Or.inl e.symm)) _, blk_far ha.d (fun e => hn (Or.inr e.symm)) _⟩, h.lB, h.lA, h.lD, h.w0, blk_set hx 5 _, h.ge, Kd.R_nil _ _ _ _ _, Kd.R_far hr (fun k hk => hk.2) _, hk.setCell (Or.inr h.ge) _⟩
end
/-- What the switch leaves: the field, or that it is bad. -/
def KB (l : List Int) (r tag kind : Int) (b0 : Bool) (q : Int) (bad : Bool) (nn : Int) (s : ByteArray) (ns : List Int) (ts : List ByteArray) : Prop :=
  0 ≤ q ∧ (bad = false → b0 = false ∧ q ≤ l.length ∧ bodyF l tag kind r = some (⟨tag, kind, nn, s, ns, ts⟩, q)) ∧ (bad = true → b0 = true ∨ bodyF l tag kind r = none)
theorem nok_len {l : List Int} {r : Int} {k : Nat} (h : nok l r k = true) : 0 ≤ r ∧ r + k ≤ l.length := nok_iff.1 h
theorem kb1 {l : List Int} {r tag v : Int} {b0 : Bool} (h0 : 0 ≤ r) (hv : nok l r 8 = true → v = nv l r 8) : KB l r tag 1 b0 (r + 8) (b0 || !nok l r 8) (i64 v) ⟨#[]⟩ [] [] := by
  unfold KB bodyF
  rw [if_pos rfl]
  refine ⟨by omega, fun hb => ?_, fun hb => ?_⟩
  · rw [Bool.or_eq_false_iff, Bool.not_eq_false'] at hb
    have := nok_len hb.2
    rw [if_pos hb.2, hv hb.2]
    exact ⟨hb.1, by omega, rfl⟩
  · rw [Bool.or_eq_true, Bool.not_eq_true'] at hb
    exact hb.imp id (fun h => by rw [h]; rfl)
theorem tend_zero {l : List Int} {r : Int} (h : tok l r = false) : tend l r = 0 := by unfold tend; rw [h]; rfl
theorem tok_len {l : List Int} (hb : ∀ x ∈ l, 0 ≤ x ∧ x ≤ 255) {r : Int} (h : tok l r = true) : 0 ≤ r ∧ r + 2 ≤ tend l r ∧ tend l r ≤ l.length := by
  have h1 := (nv_range l hb r 2).1
  rw [tend_ge hb h]
  unfold tok at h
  rw [Bool.and_eq_true, decide_eq_true_iff] at h
  have := nok_len h.1
  omega
theorem tend_nn {l : List Int} (hb : ∀ x ∈ l, 0 ≤ x ∧ x ≤ 255) (r : Int) : 0 ≤ tend l r ∧ tend l r ≤ l.length := by
  cases h : tok l r with
  | true => have := tok_len hb h; omega
  | false => rw [tend_zero h]; omega
theorem kb2 {l : List Int} (hb : ∀ x ∈ l, 0 ≤ x ∧ x ≤ 255) {r tag : Int} {b0 : Bool} (h0 : 0 ≤ r) : KB l r tag 2 b0 (tend l r) (b0 || !tok l r) 0 (strOfNums (txt l r)) [] [] := by
  unfold KB bodyF
  rw [if_neg (by decide), if_pos rfl]
  have ht := tend_nn hb r
  refine ⟨ht.1, fun hb => ?_, fun hb => ?_⟩
  · rw [Bool.or_eq_false_iff, Bool.not_eq_false'] at hb
    rw [if_pos hb.2]
    exact ⟨hb.1, ht.2, rfl⟩
  · rw [Bool.or_eq_true, Bool.not_eq_true'] at hb
    exact hb.imp id (fun h => by rw [h]; rfl)
theorem kb0 {l : List Int} {r tag kind : Int} {b0 : Bool} (h0 : 0 ≤ r) (hb0 : b0 = false → r ≤ l.length) (h1 : kind ≠ 1) (h2 : kind ≠ 2) (h3 : kind ≠ 3) (h4 : kind ≠ 4) : KB l r tag kind b0 r b0 0 ⟨#[]⟩ [] [] := by
  unfold KB bodyF
  rw [if_neg h1, if_neg h2, if_neg h3, if_neg h4]
  exact ⟨h0, fun hb => ⟨hb, hb0 hb, rfl⟩, fun hb => Or.inl hb⟩
/-- What the loop over a field's numbers holds. -/
def KN (l : List Int) (r v : Int) (b0 : Bool) (q : Int) (bad : Bool) (rr : Nat) (ns : List Int) : Prop :=
  0 ≤ q ∧ q ≤ (l.length : Int) + 100 ∧ (bad = false → b0 = false ∧ nok l r 2 = true ∧ q ≤ l.length ∧ ns.length + rr ≤ 65535 ∧ nsF l (nv l r 2).toNat (r + 2) [] = nsF l rr q ns) ∧ (bad = true → b0 = true ∨ nok l r 2 = false ∨ nsF l (nv l r 2).toNat (r + 2) [] = none)
theorem kn0 {l : List Int} (hb : ∀ x ∈ l, 0 ≤ x ∧ x ≤ 255) {r v : Int} {b0 : Bool} (h0 : 0 ≤ r) (h1 : r ≤ (l.length : Int) + 10) (hv : nok l r 2 = true → v = nv l r 2) : KN l r v b0 (r + 2) (b0 || !nok l r 2) v.toNat [] := by
  refine ⟨by omega, by omega, fun hbad => ?_, fun hbad => ?_⟩
  · rw [Bool.or_eq_false_iff, Bool.not_eq_false'] at hbad
    have h2 := nok_len hbad.2
    have h3 := (nv_range l hb r 2).2
    rw [show (256 : Int) ^ 2 = 65536 by decide] at h3
    rw [hv hbad.2]
    exact ⟨hbad.1, hbad.2, by omega, by simp only [List.length_nil]; omega, rfl⟩
  · rw [Bool.or_eq_true, Bool.not_eq_true'] at hbad
    exact hbad.imp id Or.inl
theorem kn_step {l : List Int} {r v x q : Int} {b0 : Bool} {rr : Nat} {ns : List Int} (h : KN l r v b0 q false (rr + 1) ns) (hx : nok l q 8 = true → x = nv l q 8) : KN l r v b0 (q + 8) (false || !nok l q 8) rr (ns ++ [i64 x]) := by
  obtain ⟨h0, h1, h2, _⟩ := h
  obtain ⟨e1, e2, e3, e4, e5⟩ := h2 rfl
  refine ⟨by omega, by omega, fun hbad => ?_, fun hbad => ?_⟩
  · rw [Bool.false_or, Bool.not_eq_false'] at hbad
    have := nok_len hbad
    refine ⟨e1, e2, by omega, by rw [List.length_append]; simp only [List.length_cons, List.length_nil]; omega, ?_⟩
    rw [e5, nsF, if_pos hbad, hx hbad]
  · rw [Bool.false_or, Bool.not_eq_true'] at hbad
    exact Or.inr (Or.inr (by rw [e5, nsF, hbad]; rfl))
theorem kn_end {l : List Int} {r tag v q : Int} {b0 bad : Bool} {rr : Nat} {ns : List Int} (h : KN l r v b0 q bad rr ns) (hz : bad = false → rr = 0) : KB l r tag 3 b0 q bad 0 ⟨#[]⟩ ns [] := by
  obtain ⟨h0, h1, h2, h3⟩ := h
  unfold KB bodyF
  rw [if_neg (by decide), if_neg (by decide), if_pos rfl]
  refine ⟨h0, fun hb => ?_, fun hb => ?_⟩
  · obtain ⟨e1, e2, e3, e4, e5⟩ := h2 hb
    rw [if_pos e2, e5, hz hb]
    exact ⟨e1, e3, rfl⟩
  · rcases h3 hb with e | e | e
    · exact Or.inl e
    · exact Or.inr (by rw [e]; rfl)
    · refine Or.inr ?_
      split
      · rw [e]
      · rfl
/-- What the loop over a field's texts holds. -/
def KT (l : List Int) (r v : Int) (b0 : Bool) (q : Int) (bad : Bool) (rr : Nat) (ns : List ByteArray) : Prop :=
  0 ≤ q ∧ q ≤ (l.length : Int) + 100 ∧ (bad = false → b0 = false ∧ nok l r 2 = true ∧ q ≤ l.length ∧ ns.length + rr ≤ 65535 ∧ tsF l (nv l r 2).toNat (r + 2) [] = tsF l rr q ns) ∧ (bad = true → b0 = true ∨ nok l r 2 = false ∨ tsF l (nv l r 2).toNat (r + 2) [] = none)
theorem kt0 {l : List Int} (hb : ∀ x ∈ l, 0 ≤ x ∧ x ≤ 255) {r v : Int} {b0 : Bool} (h0 : 0 ≤ r) (h1 : r ≤ (l.length : Int) + 10) (hv : nok l r 2 = true → v = nv l r 2) : KT l r v b0 (r + 2) (b0 || !nok l r 2) v.toNat [] := by
  refine ⟨by omega, by omega, fun hbad => ?_, fun hbad => ?_⟩
  · rw [Bool.or_eq_false_iff, Bool.not_eq_false'] at hbad
    have h2 := nok_len hbad.2
    have h3 := (nv_range l hb r 2).2
    rw [show (256 : Int) ^ 2 = 65536 by decide] at h3
    rw [hv hbad.2]
    exact ⟨hbad.1, hbad.2, by omega, by simp only [List.length_nil]; omega, rfl⟩
  · rw [Bool.or_eq_true, Bool.not_eq_true'] at hbad
    exact hbad.imp id Or.inl
theorem kt_step {l : List Int} (hb : ∀ x ∈ l, 0 ≤ x ∧ x ≤ 255) {r v q : Int} {b0 : Bool} {rr : Nat} {ns : List ByteArray} (h : KT l r v b0 q false (rr + 1) ns) : KT l r v b0 (tend l q) (false || !tok l q) rr (ns ++ [strOfNums (txt l q)]) := by
  have ht := tend_nn hb q
  obtain ⟨h0, h1, h2, _⟩ := h
  obtain ⟨e1, e2, e3, e4, e5⟩ := h2 rfl
  refine ⟨by omega, by omega, fun hbad => ?_, fun hbad => ?_⟩
  · rw [Bool.false_or, Bool.not_eq_false'] at hbad
    refine ⟨e1, e2, by omega, by rw [List.length_append]; simp only [List.length_cons, List.length_nil]; omega, ?_⟩
    rw [e5, tsF, if_pos hbad]
  · rw [Bool.false_or, Bool.not_eq_true'] at hbad
    exact Or.inr (Or.inr (by rw [e5, tsF, hbad]; rfl))
theorem kt_end {l : List Int} {r tag v q : Int} {b0 bad : Bool} {rr : Nat} {ns : List ByteArray} (h : KT l r v b0 q bad rr ns) (hz : bad = false → rr = 0) : KB l r tag 4 b0 q bad 0 ⟨#[]⟩ [] ns := by
  obtain ⟨h0, h1, h2, h3⟩ := h
  unfold KB bodyF
  rw [if_neg (by decide), if_neg (by decide), if_neg (by decide), if_pos rfl]
  refine ⟨h0, fun hb => ?_, fun hb => ?_⟩
  · obtain ⟨e1, e2, e3, e4, e5⟩ := h2 hb
    rw [if_pos e2, e5, hz hb]
    exact ⟨e1, e3, rfl⟩
  · rcases h3 hb with e | e | e
    · exact Or.inl e
    · exact Or.inr (by rw [e]; rfl)
    · refine Or.inr ?_
      split
      · rw [e]
      · rfl
theorem add0 (ad : Addr) : ad.add (Int.toNat 0) = ad := by cases ad; rfl
theorem sz_alloc (w : World) (o : Obj) : (w.alloc o).heap.size = w.heap.size + 1 := by unfold World.alloc; simp
theorem am_start (w : World) (A : Option Addr) (m c : Nat) (b : Bool) : AM w (((w.alloc (.cells #[.slice A m c] 22)).alloc (.cells #[.int .i64 1] 3)).alloc (.cells #[.bool b] 4)) w.heap.size (w.heap.size + 1) (w.heap.size + 1 + 1) A m c 1 b := by
  have b1 := below_alloc (Below.refl (w.alloc (.cells #[.slice A m c] 22)).heap.size (w.alloc (.cells #[.slice A m c] 22))) (.cells #[.int .i64 1] 3)
  have b2 := below_alloc (Below.refl ((w.alloc (.cells #[.slice A m c] 22)).alloc (.cells #[.int .i64 1] 3)).heap.size ((w.alloc (.cells #[.slice A m c] 22)).alloc (.cells #[.int .i64 1] 3))) (.cells #[.bool b] 4)
  have e1 := heap_alloc_new w (.cells #[.slice A m c] 22)
  have e2 := heap_alloc_new (w.alloc (.cells #[.slice A m c] 22)) (.cells #[.int .i64 1] 3)
  have e3 := heap_alloc_new ((w.alloc (.cells #[.slice A m c] 22)).alloc (.cells #[.int .i64 1] 3)) (.cells #[.bool b] 4)
  rw [sz_alloc] at e2
  rw [sz_alloc, sz_alloc] at e3
  exact ⟨below_alloc (below_alloc (below_alloc (Below.refl _ _) _) _) _, Nat.le_refl _, by omega, by omega, by omega, by omega, by omega, blk_below (blk_below e1 b1) b2, blk_below e2 b2, e3⟩
/-- What the loop over the fields holds. -/
structure LA (w W : World) (bB bA bD : Nat) (A : Option Addr) (l : List Int) (c : Nat) (p : Int) (v : Value) (out : List Fl) (cnt i : Nat) : Prop where
  am : AM w W bB bA bD A l.length c p false
  row : Kd.S k30 30 W w.heap.size (fun k => ¬ SAD bA bD k ∧ k ≠ bB) v out
  lB : bB < W.heap.size
  lA : bA < W.heap.size
  lD : bD < W.heap.size
  p0 : 0 ≤ p
  p1 : p ≤ l.length
  is : allL l cnt 1 [] = allL l (cnt - i) p out
  len : out.length = i
theorem fl_ld {w : World} {g : Nat} {C : Array Value} (h : w.heap[g]? = some (.cells C 30 (0, 0))) (hs : C.size = 6) : (Instr.loadAt 30 (.pointer (some ⟨g, 0, none⟩))).run Try.prog w = .ok (.agg C) w := by
  have hld := run_loadVar_row (P := Try.prog) w g 30 30 C (0, 0) _ h Try.underlying30 rfl (by rw [hs]; exact infoFl)
  simp only [Instr.loadAt, Instr.sureAddr, Sem.run_bind, Sem.run_pure, Result.andThen_ok, hld]
theorem infoFlZ : (Try.prog.info? 30).map (fun i => (i.zero, i.size, i.bytes)) = some (some (.agg #[.int .u8 0, .int .u8 0, .int .i64 0, .string ⟨#[]⟩, .slice none 0 0, .slice none 0 0]), 6, 80) := by kernel_rfl
/-- The field that was read, off the place where it began. -/
theorem fld_of {l : List Int} (hb : ∀ x ∈ l, 0 ≤ x ∧ x ≤ 255) {p v1 v2 tg kd : Int} {b0 bad : Bool} {q nn : Int} {s : ByteArray} {ns : List Int} {ts : List ByteArray} (ht : tg = v1 % 256) (hk : kd = v2 % 256) (h1 : nok l p 1 = true → v1 = nv l p 1) (h2 : nok l (p + 1) 1 = true → v2 = nv l (p + 1) 1) (hb0 : b0 = ((false || !nok l p 1) || !nok l (p + 1) 1)) (h : KB l (p + 2) tg kd b0 q bad nn s ns ts) :
    (bad = false → oneF l p = some (⟨tg, kd, nn, s, ns, ts⟩, q)) ∧ (bad = true → oneF l p = none) := by
  have hr : ∀ (i : Int), 0 ≤ nv l i 1 ∧ nv l i 1 < 256 := fun i => nv_range l hb i 1
  unfold oneF
  cases c1 : nok l p 1 with
  | false =>
    rw [c1] at hb0
    refine ⟨fun e => ?_, fun _ => rfl⟩
    have := (h.2.1 e).1
    rw [hb0] at this
    cases this
  | true =>
    cases c2 : nok l (p + 1) 1 with
    | false =>
      rw [c1, c2] at hb0
      refine ⟨fun e => ?_, fun _ => rfl⟩
      have := (h.2.1 e).1
      rw [hb0] at this
      cases this
    | true =>
      have e1 : tg = nv l p 1 := by have := hr p; rw [ht, h1 c1]; omega
      have e2 : kd = nv l (p + 1) 1 := by have := hr (p + 1); rw [hk, h2 c2]; omega
      rw [c1, c2] at hb0
      rw [← e1, ← e2, if_pos rfl, if_pos rfl]
      exact ⟨fun e => (h.2.1 e).2.2, fun e => (h.2.2 e).resolve_left (by rw [hb0]; decide)⟩
theorem allL_some {l : List Int} {k : Nat} {p q : Int} {out : List Fl} {x : Fl} (h : oneF l p = some (x, q)) : allL l (k + 1) p out = allL l k q (out ++ [x]) := by rw [allL, h]
theorem allL_none {l : List Int} {k : Nat} {p : Int} {out : List Fl} (h : oneF l p = none) : allL l (k + 1) p out = none := by rw [allL, h]
set_option maxRecDepth 100000 in
set_option maxHeartbeats 16000000 in
theorem all_calls (A0 : Option Addr) (c0 : Nat) (l : List Int) (w : World) (hr : Kd.C (Kd.int .u8) w A0 l.length l) (hc : l.length ≤ c0) (ho : okBytes l = true) :
    Calls Try.prog 11 #[.slice A0 l.length c0] w fun e w' => ∃ v0_ : Value, e = .returned (.tuple #[v0_, .int .i64 (allF l).2]) ∧ Kd.S k30 30 w' w.heap.size (fun _ => True) v0_ (allF l).1 ∧ Below w.heap.size w w' := by
  obtain ⟨hl, hb⟩ := okBytes_iff.1 ho
  have HR := Lib.hid hr
  have HC := Lib.hid hc
  have HB := Lib.hid hb
  have HL := Lib.hid hl
  have hmf : ∀ (fn : Fn) (first cap : Array Value) (w : World), (Instr.makeFunc fn first cap).run Try.prog w = .ok (.func fn first cap) w := fun _ _ _ _ => rfl
  have he : ∀ args w, (callFunc 29 args).run Try.prog w = .ok (.enter 29 args) w := enters_of Try.func29 (by kernel_rfl) rfl
  have he2 : ∀ args w, (callFunc 31 args).run Try.prog w = .ok (.enter 31 args) w := enters_of Try.func31 (by kernel_rfl) rfl
  obtain ⟨m, hm⟩ : ∃ m, m = l.length := ⟨_, rfl⟩
  rw [← hm]
  have HM := Lib.hid hm
  clear hm hr hc ho hl hb
  by_cases hbad : m = 0 ∨ 65000 < m
  · have HF : Hid (allF l = ([], 40)) := Lib.hid (by unfold allF; rw [← HM.out, if_pos hbad])
    have HBw := Lib.hid (below_alloc (below_alloc (below_alloc (Below.refl w.heap.size w) (.cells #[.slice A0 m c0] 22)) (.cells #[.int .i64 1] 3)) (.cells #[.bool true] 4))
    rcases hbad with h0 | h0
    · subst h0
      go_enter Try.func11, Try.ntmps11
      go_wp2
      go_ret2
      exact ⟨.slice none 0 0, by rw [HF.out]; rfl, by rw [HF.out]; exact Kd.S_nil _ _ _ _ _, HBw.out⟩
    · have h1 : (65000 : Int) < (m : Int) := by omega
      have h2 : ((m : Int) == 0) = false := by simp; omega
      go_enter Try.func11, Try.ntmps11
      go_wp2
      go_ret2
      exact ⟨.slice none 0 0, by rw [HF.out]; rfl, by rw [HF.out]; exact Kd.S_nil _ _ _ _ _, HBw.out⟩
  · have h1 : ¬ (65000 : Int) < (m : Int) := by omega
    have h2 : ((m : Int) == 0) = false := by simp; omega
    have hF : allF l = judge l.length (allL l (rd l 0).toNat 1 []) := by unfold allF; rw [if_neg (by rw [← HM.out]; exact hbad)]
    have HF := Lib.hid hF
    clear hF
    have hm1 : 1 ≤ m := by omega
    have HA0 := Lib.hid (am_start w A0 m c0 false)
    have HS0 : Hid ((((w.alloc (.cells #[.slice A0 m c0] 22)).alloc (.cells #[.int .i64 1] 3)).alloc (.cells #[.bool false] 4)).heap.size = w.heap.size + 3) := Lib.hid (by rw [sz_alloc, sz_alloc, sz_alloc])
    go_enter Try.func11, Try.ntmps11
    go_upto_region 5 with (fail)
    generalize World.alloc _ _ = W1 at HA0 HS0 ⊢
    obtain ⟨bB, hbB⟩ : ∃ g, g = w.heap.size := ⟨_, rfl⟩
    rw [← hbB] at HA0 ⊢
    obtain ⟨bA, hbA⟩ : ∃ g, g = bB + 1 := ⟨_, rfl⟩
    rw [← hbA] at HA0 ⊢
    obtain ⟨bD, hbD⟩ : ∃ g, g = bA + 1 := ⟨_, rfl⟩
    rw [← hbD] at HA0 ⊢
    have HI : Hid (bB < W1.heap.size ∧ bA < W1.heap.size ∧ bD < W1.heap.size) := Lib.hid (by rw [HS0.out]; omega)
    clear HS0 hbB hbA hbD
    have cB : W1.cell? ⟨bB, 0, none⟩ = some (.slice A0 m c0) := (blk_cell HA0.out.B 0).trans rfl
    have cD : W1.cell? ⟨bD, 0, none⟩ = some (.bool false) := (blk_cell HA0.out.d 0).trans rfl
    obtain ⟨ad, hA0, hx0⟩ := Kd.at_int (Kd.C_below HR.out HA0.out.bel) 0 (by omega) (by have := HM.out; omega)
    obtain ⟨x0, hx0v⟩ : ∃ x, x = rd l 0 := ⟨_, rfl⟩
    rw [← hx0v] at hx0 HF
    have hx0b : 0 ≤ x0 ∧ x0 ≤ 255 := by
      have := HB.out (rd l ((0 : Nat) : Int)) (Low.rd_mem (by have := HM.out; omega))
      rw [hx0v]
      exact this
    clear hx0v
    cases hA0
    obtain ⟨cnt, hcnt⟩ : ∃ n : Nat, x0 = n := ⟨x0.toNat, by omega⟩
    subst hcnt
    rw [Int.toNat_natCast] at HF
    rw [← HM.out] at HF
    have hc255 : cnt ≤ 255 := by omega
    have H0 : Hid (LA w W1 bB bA bD (some ad) l c0 1 (.slice none 0 0) [] cnt 0) := Lib.hid ⟨by rw [← HM.out]; exact HA0.out, Kd.S_nil _ _ _ _ _, HI.out.1, HI.out.2.1, HI.out.2.2, by decide, by have := HM.out; omega, by rw [Nat.sub_zero], rfl⟩
    have hm65 : m ≤ 65000 := by omega
    clear HA0 HI hx0b h1 h2 hbad
    rw [add0] at hx0
    go_wp2_with fail
    go_loopw [8, 26] (fun v8 v26 wr => ∃ (i : Nat) (p : Int) (out : List Fl), i ≤ cnt ∧ v26 = .int .u8 i ∧ Hid (LA w wr bB bA bD (some ad) l c0 p v8 out cnt i)) (fun _ v26 _ => cnt - (intOf v26).toNat)
    case atStart => exact ⟨0, 1, [], Nat.zero_le _, rfl, H0⟩
    case round =>
      clear H0 cB cD hx0
      obtain ⟨i, p, out, hi, rfl, H⟩ := hrel
      by_cases hlt : i < cnt
      · skip
        obtain ⟨W0, hW0⟩ : ∃ x, x = wr := ⟨_, rfl⟩
        rw [← hW0] at H ⊢
        clear hW0
        have hp0 := H.out.p0
        have hp1 := H.out.p1
        have hpl : p ≤ 65000 := by have := HM.out; omega
        have HN1 := Lib.hid (number_calls H.out.am HR.out HB.out HL.out hp0 (by omega) 1 (by decide) (by decide))
        rw [← HM.out] at HN1
        go_wp2_with fail
        refine HN1.out.mono ?_
        rintro e V1 ⟨v1, rfl, hv1, ha1, hk1⟩
        have HV1 := Lib.hid hv1
        have HA1 := Lib.hid ha1
        have HK1 := Lib.hid hk1
        clear hv1 ha1 hk1 HN1
        rw [show ((1 : Nat) : Int) = 1 from rfl] at HA1
        have HN2 := Lib.hid (number_calls (A := some ad) (c := c0) (l := l) (p := p + 1) (by rw [← HM.out]; exact HA1.out) HR.out HB.out HL.out (by omega) (by omega) 1 (by decide) (by decide))
        rw [← HM.out] at HN2
        go_wp2_with fail
        refine HN2.out.mono ?_
        rintro e V2 ⟨v2, rfl, hv2, ha2, hk2⟩
        have HV2 := Lib.hid hv2
        have HA2 := Lib.hid ha2
        have HK2 := Lib.hid (HK1.out.then_ hk2 (fun _ e => Or.inl e))
        clear hv2 ha2 hk2 HN2 HA1 HK1
        go_upto_region 11 with (fail)
        obtain ⟨tg, htg⟩ : ∃ x, x = v1 % 256 := ⟨_, rfl⟩
        obtain ⟨kd, hkd⟩ : ∃ x, x = v2 % 256 := ⟨_, rfl⟩
        rw [← htg, ← hkd]
        have HTK := Lib.hid (And.intro htg hkd)
        clear htg hkd
        obtain ⟨b0, hb0⟩ : ∃ b, b = ((false || !nok l p 1) || !nok l (p + 1) 1) := ⟨_, rfl⟩
        rw [← hb0, show p + 1 + ((1 : Nat) : Int) = p + 2 by omega] at HA2
        have HB0 := Lib.hid hb0
        clear hb0
        have H3 : Hid (FM w W0 (V2.alloc (.cells #[.int .u8 tg, .int .u8 kd, .int .i64 0, .string ⟨#[]⟩, .slice none 0 0, .slice none 0 0] 30)) bB bA bD V2.heap.size (some ad) m c0 (p + 2) b0 tg kd 0 ⟨#[]⟩ (.slice none 0 0) (.slice none 0 0) [] []) := Lib.hid
          ⟨HA2.out.below (below_alloc (Below.refl _ _) _), H.out.lB, H.out.lA, H.out.lD, H.out.am.bel.size, heap_alloc_new V2 _, HK2.out.1, Kd.R_nil _ _ _ _ _, Kd.R_nil _ _ _ _ _, HK2.out.alloc _⟩
        clear HA2 HK2
        generalize World.alloc V2 _ = V3 at H3 ⊢
        obtain ⟨gF, hgF⟩ : ∃ g, g = V2.heap.size := ⟨_, rfl⟩
        rw [← hgF] at H3 ⊢
        clear hgF
        have c1 : V3.cell? ⟨gF, 1, none⟩ = some (.int .u8 kd) := (blk_cell H3.out.box 1).trans rfl
        go_upto_block 2 with (fail)
        go_cut [] (fun wc => ∃ (q : Int) (bad : Bool) (nn : Int) (s : ByteArray) (v4 v5 : Value) (ns : List Int) (ts : List ByteArray), Hid (FM w W0 wc bB bA bD gF (some ad) m c0 q bad tg kd nn s v4 v5 ns ts) ∧ Hid (KB l (p + 2) tg kd b0 q bad nn s ns ts))
        case first =>
          clear c1
          by_cases k1 : kd = 1
          · subst k1
            have HN := Lib.hid (number_calls (A := some ad) (c := c0) (l := l) (p := p + 2) (by rw [← HM.out]; exact H3.out.am) HR.out HB.out HL.out (by omega) (by omega) 8 (by decide) (by decide))
            rw [← HM.out] at HN
            go_wp2_with fail
            refine HN.out.mono ?_
            rintro e V4 ⟨v, rfl, hv, ha, hk⟩
            have H4 := Lib.hid (H3.out.call ha hk)
            have HV := Lib.hid hv
            clear hv ha hk HN H3
            have c2 : V4.cell? ⟨gF, 2, none⟩ = some (.int .i64 0) := (blk_cell H4.out.box 2).trans rfl
            have z2 : V4.frozen? ⟨gF, 2, none⟩ = false := blk_frozen H4.out.box 2
            go_wp2
            go_meet
            case rel => exact ⟨_, _, _, _, _, _, _, _, Lib.hid (H4.out.setN _), Lib.hid (kb1 (tag := tg) (b0 := b0) (r := p + 2) (by omega) HV.out.2.2)⟩
          by_cases k2 : kd = 2
          · subst k2
            have HN := Lib.hid (textC_calls (A := some ad) (c := c0) (l := l) (p := p + 2) (by rw [← HM.out]; exact H3.out.am) HR.out HC.out HB.out HL.out (by omega) (by omega))
            rw [← HM.out] at HN
            go_wp2_with fail
            refine HN.out.mono ?_
            rintro e V4 ⟨rfl, ha, hk⟩
            have H4 := Lib.hid (H3.out.call ha hk)
            clear ha hk HN H3
            obtain ⟨tx, htx⟩ : ∃ x, x = strOfNums (txt l (p + 2)) := ⟨_, rfl⟩
            rw [← htx]
            have HT := Lib.hid htx
            clear htx
            have c3 : V4.cell? ⟨gF, 3, none⟩ = some (.string ⟨#[]⟩) := (blk_cell H4.out.box 3).trans rfl
            have z3 : V4.frozen? ⟨gF, 3, none⟩ = false := blk_frozen H4.out.box 3
            go_wp2
            go_meet
            case rel => exact ⟨_, _, _, _, _, _, _, _, Lib.hid (H4.out.setT _), Lib.hid (by rw [HT.out]; exact kb2 HB.out (by omega))⟩
          by_cases k3 : kd = 3
          · subst k3
            have HN := Lib.hid (number_calls (A := some ad) (c := c0) (l := l) (p := p + 2) (by rw [← HM.out]; exact H3.out.am) HR.out HB.out HL.out (by omega) (by omega) 2 (by decide) (by decide))
            rw [← HM.out] at HN
            go_wp2_with fail
            refine HN.out.mono ?_
            rintro e V4 ⟨v, rfl, hv, ha, hk⟩
            have H4 := Lib.hid (H3.out.call ha hk)
            have HV := Lib.hid hv
            have HK0 : Hid (KN l (p + 2) v b0 (p + 2 + 2) (b0 || !nok l (p + 2) 2) v.toNat []) := Lib.hid (kn0 HB.out (by omega) (by have := HM.out; omega) hv.2.2)
            have hv0 : v = (v.toNat : Int) := by have := hv.1; omega
            have hv64 : v.toNat < 18446744073709551616 := by have := hv.2.1; omega
            clear ha hk HN H3
            obtain ⟨v0, hv0'⟩ : ∃ x, x = v.toNat := ⟨_, rfl⟩
            rw [← hv0'] at hv0 HK0 hv64
            subst hv0
            clear hv hv0'
            go_wp2_with fail
            go_loopw [10] (fun v10 wr => ∃ (rr : Nat) (q : Int) (bad : Bool) (v4 : Value) (ns : List Int), v10 = .int .u64 rr ∧ Hid (rr < 18446744073709551616) ∧ Hid (FM w W0 wr bB bA bD gF (some ad) m c0 q bad tg 3 0 ⟨#[]⟩ v4 (.slice none 0 0) ns []) ∧ Hid (KN l (p + 2) v0 b0 q bad rr ns)) (fun v10 _ => (intOf v10).toNat)
            case atStart => exact ⟨v0, _, _, _, [], rfl, Lib.hid hv64, H4, HK0⟩
            case round =>
              clear H4 HK0 HV hv64
              obtain ⟨rr, q, bad, v4, ns, rfl, h64, H4, HKN⟩ := hrel
              have cD : wr.cell? ⟨bD, 0, none⟩ = some (.bool bad) := (blk_cell H4.out.am.d 0).trans rfl
              by_cases hz : 0 < rr
              · obtain ⟨r1, rfl⟩ : ∃ r1, rr = r1 + 1 := ⟨rr - 1, by omega⟩
                cases bad with
                | true =>
                  go_wp2
                  go_meet
                  case rel => exact ⟨_, _, _, _, _, _, _, _, H4, Lib.hid (kn_end HKN.out (fun h => by cases h))⟩
                | false =>
                  go_upto_region 20 with (fail)
                  have HD := Lib.hid (H4.out.below (Below.refl _ _).drew)
                  have hq := HKN.out.1
                  have hq2 := (HKN.out.2.2.1 rfl).2.2.1
                  have HN := Lib.hid (number_calls (A := some ad) (c := c0) (l := l) (p := q) (by rw [← HM.out]; exact HD.out.am) HR.out HB.out HL.out hq (by have := HM.out; omega) 8 (by decide) (by decide))
                  rw [← HM.out, show ((8 : Nat) : Int) = 8 from rfl] at HN
                  have c4 : wr.drew.cell? ⟨gF, 4, none⟩ = some v4 := (blk_cell HD.out.box 4).trans rfl
                  have hw1 : IntKind.u64.wrap (r1 : Int) = (r1 : Int) := by have := h64.out; rw [IntKind.wrap_u64]; omega
                  refine start_ (n := 9) (S := fun w' => w'.cell? ⟨gF, 4, none⟩ = some v4) (ds := [8]) (lk 9 0) (by kernel_rfl) rfl rfl (c4) (fun hHeld => ?_)
                  refine with_tabW field_All.tab20 field_All.bits20 (fun HT_ HW_ => ?_)
                  refine pu (i := 0) (N := some 60) (lk 9 1) ?_
                  refine pu (i := 2) (N := some 62) (lk 9 5) ?_
                  refine tk1 (i := 1) (N := some 61) (lk 9 7) ?_
                  refine on1 (i := 3) (N := some 63) (lk 9 15) (fun K hK => ?_)
                  refine goesC_ (.tmp 62) #[.pointer (some ⟨bB, 0, none⟩), .pointer (some ⟨bA, 0, none⟩), .pointer (some ⟨bD, 0, none⟩)] #[.int .i64 8, .pointer (some ⟨bB, 0, none⟩), .pointer (some ⟨bA, 0, none⟩), .pointer (some ⟨bD, 0, none⟩)] Try.func29 (by kernel_rfl) rfl #[.int .i64 8] (by first | rfl | simp) (by rfl) rfl rfl rfl (by first | (simp only [List.map_toArray, List.map_cons, List.map_nil]; done) | (simp only [List.map_toArray, List.map_cons, List.map_nil]; rfl)) ?_
                  with_reducible refine (HN.out).mono ?_
                  rintro e V5 ⟨v8, rfl, hv, ha, hk⟩
                  refine ⟨_, rfl, ?_⟩
                  have HV := Lib.hid hv.2.2
                  clear hv
                  have H5 := Lib.hid (HD.out.call ha hk)
                  have HE := H5
                  clear ha hk HN HD
                  refine hK.out _ _ ((blk_cell H5.out.box 4).trans rfl) (fun hHeld => ?_)
                  clear hK K
                  refine nm (some 63) ?_
                  refine pu (i := 4) (N := some 64) (lk 9 31) ?_
                  refine on1 (i := 5) (N := some 65) (lk 9 63) (fun K hK => ?_)
                  refine value_ (w1 := ?_) (v := ?_) (by rfl) rfl ?_ ?_
                  rotate_left 2
                  · go_simp
                    constructor
                    · rfl
                    · rfl
                  refine hK.out _ _ ((blk_cell (H5.out.below (below_alloc (Below.refl V5.heap.size V5) (.cells #[.int .i64 (wrap64 v8)] 2))).box 4).trans rfl) (fun hHeld => ?_)
                  clear hK K
                  refine nm (some 65) ?_
                  refine on1 (i := 6) (N := some 66) (lk 9 127) (fun K hK => ?_)
                  refine Kd.R_append_step (Kd.int .i64) (w0 := w) (W := V5) w.heap.size (by rfl) (.tmp 61) (.tmp 65) 27 2 (.int .i64 0) 8 rfl Try.underlying27 infoI64 rfl (by decide) (by decide) v4 ns (wrap64 v8) [.int .i64 (wrap64 v8)] (fun k => W0.heap.size ≤ k ∧ k ≠ gF) (fun _ => False) rfl rfl rfl (fun _ hk => hk.elim) (fun k hk => ⟨Nat.le_trans HE.out.kept.1 hk, fun e => by have := HE.out.lt; omega⟩) HE.out.r4 HE.out.am.bel HE.out.am.bel.size (by have := (HKN.out.2.2.1 rfl).2.2.2.1; omega) ?_
                  intro vz w6 ho hb hg _
                  obtain ⟨Az, cz, hvz⟩ := Kd.R_slice ho
                  obtain ⟨nz, hnz⟩ : ∃ x, x = (ns ++ [(wrap64 v8)]).length := ⟨_, rfl⟩
                  rw [← hnz] at hvz
                  subst hvz
                  clear hnz
                  have H6 := Lib.hid (HE.out.grow4 hg hb ho)
                  have hbx := (HE.out.grow (row := v4.ownBlock) HE.out.r4.1 hg hb).2.1
                  have c6 : w6.cell? ⟨gF, 4, none⟩ = some v4 := (blk_cell hbx 4).trans rfl
                  have z6 : w6.frozen? ⟨gF, 4, none⟩ = false := blk_frozen hbx 4
                  clear ho hb hg hbx
                  refine hK.out _ _ (c6) (fun hHeld => ?_)
                  clear hK K
                  refine nm (some 66) ?_
                  refine pu (i := 7) (N := some 67) (lk 9 255) ?_
                  refine last_ (i := 8) (N := none) (lk 9 511) rfl rfl (one_of HT_.out (by kernel_rfl)) (by decide) (fun K hK => ?_)
                  refine skip_ (w1 := ?_) (by rfl) rfl ?_ ?_
                  rotate_left
                  · go_simp
                    rfl
                  refine hK.out _ _ ?_
                  clear hK K
                  refine done_ (done_of HT_.out (by kernel_rfl)) ?_
                  
                  go_wp2_with fail
                  go_roundw
                  case rel => exact ⟨r1, _, _, _, _, by go_num, Lib.hid (by have := h64.out; omega), H6, Lib.hid (kn_step HKN.out HV.out)⟩
                  case measure => first | (simp [intOf]; done) | (simp [intOf]; omega)
              · obtain rfl : rr = 0 := by omega
                go_wp2
                go_meet
                case rel => exact ⟨_, _, _, _, _, _, _, _, H4, Lib.hid (kn_end HKN.out (fun _ => rfl))⟩
          by_cases k4 : kd = 4
          · subst k4
            have HN := Lib.hid (number_calls (A := some ad) (c := c0) (l := l) (p := p + 2) (by rw [← HM.out]; exact H3.out.am) HR.out HB.out HL.out (by omega) (by omega) 2 (by decide) (by decide))
            rw [← HM.out] at HN
            go_wp2_with fail
            refine HN.out.mono ?_
            rintro e V4 ⟨v, rfl, hv, ha, hk⟩
            have H4 := Lib.hid (H3.out.call ha hk)
            have HV := Lib.hid hv
            have HK0 : Hid (KT l (p + 2) v b0 (p + 2 + 2) (b0 || !nok l (p + 2) 2) v.toNat []) := Lib.hid (kt0 HB.out (by omega) (by have := HM.out; omega) hv.2.2)
            have hv0 : v = (v.toNat : Int) := by have := hv.1; omega
            have hv64 : v.toNat < 18446744073709551616 := by have := hv.2.1; omega
            clear ha hk HN H3
            obtain ⟨v0, hv0'⟩ : ∃ x, x = v.toNat := ⟨_, rfl⟩
            rw [← hv0'] at hv0 HK0 hv64
            subst hv0
            clear hv hv0'
            go_wp2_with fail
            go_loopw [11] (fun v11 wr => ∃ (rr : Nat) (q : Int) (bad : Bool) (v5 : Value) (ns : List ByteArray), v11 = .int .u64 rr ∧ Hid (rr < 18446744073709551616) ∧ Hid (FM w W0 wr bB bA bD gF (some ad) m c0 q bad tg 4 0 ⟨#[]⟩ (.slice none 0 0) v5 [] ns) ∧ Hid (KT l (p + 2) v0 b0 q bad rr ns)) (fun v11 _ => (intOf v11).toNat)
            case atStart => exact ⟨v0, _, _, _, [], rfl, Lib.hid hv64, H4, HK0⟩
            case round =>
              clear H4 HK0 HV hv64
              obtain ⟨rr, q, bad, v5, ns, rfl, h64, H4, HKN⟩ := hrel
              have cD : wr.cell? ⟨bD, 0, none⟩ = some (.bool bad) := (blk_cell H4.out.am.d 0).trans rfl
              by_cases hz : 0 < rr
              · obtain ⟨r1, rfl⟩ : ∃ r1, rr = r1 + 1 := ⟨rr - 1, by omega⟩
                cases bad with
                | true =>
                  go_wp2
                  go_meet
                  case rel => exact ⟨_, _, _, _, _, _, _, _, H4, Lib.hid (kt_end HKN.out (fun h => by cases h))⟩
                | false =>
                  go_upto_region 25 with (fail)
                  have HD := Lib.hid (H4.out.below (Below.refl _ _).drew)
                  have hq := HKN.out.1
                  have hq2 := (HKN.out.2.2.1 rfl).2.2.1
                  have HN := Lib.hid (textC_calls (A := some ad) (c := c0) (l := l) (p := q) (by rw [← HM.out]; exact HD.out.am) HR.out HC.out HB.out HL.out hq (by have := HM.out; omega))
                  rw [← HM.out] at HN
                  have c4 : wr.drew.cell? ⟨gF, 5, none⟩ = some v5 := (blk_cell HD.out.box 5).trans rfl
                  have hw1 : IntKind.u64.wrap (r1 : Int) = (r1 : Int) := by have := h64.out; rw [IntKind.wrap_u64]; omega
                  refine start_ (n := 8) (S := fun w' => w'.cell? ⟨gF, 5, none⟩ = some v5) (ds := [7]) (lk 8 0) (by kernel_rfl) rfl rfl (c4) (fun hHeld => ?_)
                  refine with_tabW field_All.tab25 field_All.bits25 (fun HT_ HW_ => ?_)
                  refine pu (i := 0) (N := some 80) (lk 8 1) ?_
                  refine pu (i := 2) (N := some 82) (lk 8 5) ?_
                  refine tk1 (i := 1) (N := some 81) (lk 8 7) ?_
                  refine on1 (i := 3) (N := some 83) (lk 8 15) (fun K hK => ?_)
                  refine goesC_ (.tmp 82) #[.pointer (some ⟨bB, 0, none⟩), .pointer (some ⟨bA, 0, none⟩), .pointer (some ⟨bD, 0, none⟩)] #[.pointer (some ⟨bB, 0, none⟩), .pointer (some ⟨bA, 0, none⟩), .pointer (some ⟨bD, 0, none⟩)] Try.func31 (by kernel_rfl) rfl #[] (by first | rfl | simp) (by rfl) rfl rfl rfl (by first | (simp only [List.map_toArray, List.map_cons, List.map_nil]; done) | (simp only [List.map_toArray, List.map_cons, List.map_nil]; rfl)) ?_
                  with_reducible refine (HN.out).mono ?_
                  rintro e V5 ⟨rfl, ha, hk⟩
                  refine ⟨_, rfl, ?_⟩
                  obtain ⟨tx, htx⟩ : ∃ x, x = strOfNums (txt l q) := ⟨_, rfl⟩
                  rw [← htx]
                  have HV := Lib.hid htx
                  clear htx
                  have H5 := Lib.hid (HD.out.call ha hk)
                  have HE := H5
                  clear ha hk HN HD
                  refine hK.out _ _ ((blk_cell H5.out.box 5).trans rfl) (fun hHeld => ?_)
                  clear hK K
                  refine nm (some 83) ?_
                  refine on1 (i := 4) (N := some 84) (lk 8 31) (fun K hK => ?_)
                  refine value_ (w1 := ?_) (v := ?_) (by rfl) rfl ?_ ?_
                  rotate_left 2
                  · go_simp
                    constructor
                    · rfl
                    · rfl
                  refine hK.out _ _ ((blk_cell (H5.out.below (below_alloc (Below.refl V5.heap.size V5) (.cells #[.string tx] 9))).box 5).trans rfl) (fun hHeld => ?_)
                  clear hK K
                  refine nm (some 84) ?_
                  refine on1 (i := 5) (N := some 85) (lk 8 63) (fun K hK => ?_)
                  refine Kd.R_append_step Kd.string (w0 := w) (W := V5) w.heap.size (by rfl) (.tmp 81) (.tmp 84) 28 9 (.string ⟨#[]⟩) 16 rfl Try.underlying28 infoStr rfl (by decide) (by decide) v5 ns tx [.string tx] (fun k => W0.heap.size ≤ k ∧ k ≠ gF) (fun _ => False) rfl rfl rfl (fun _ hk => hk.elim) (fun k hk => ⟨Nat.le_trans HE.out.kept.1 hk, fun e => by have := HE.out.lt; omega⟩) HE.out.r5 HE.out.am.bel HE.out.am.bel.size (by have := (HKN.out.2.2.1 rfl).2.2.2.1; omega) ?_
                  intro vz w6 ho hb hg _
                  obtain ⟨Az, cz, hvz⟩ := Kd.R_slice ho
                  obtain ⟨nz, hnz⟩ : ∃ x, x = (ns ++ [tx]).length := ⟨_, rfl⟩
                  rw [← hnz] at hvz
                  subst hvz
                  clear hnz
                  have H6 := Lib.hid (HE.out.grow5 hg hb ho)
                  have hbx := (HE.out.grow (row := v5.ownBlock) HE.out.r5.1 hg hb).2.1
                  have c6 : w6.cell? ⟨gF, 5, none⟩ = some v5 := (blk_cell hbx 5).trans rfl
                  have z6 : w6.frozen? ⟨gF, 5, none⟩ = false := blk_frozen hbx 5
                  clear ho hb hg hbx
                  refine hK.out _ _ (c6) (fun hHeld => ?_)
                  clear hK K
                  refine nm (some 85) ?_
                  refine pu (i := 6) (N := some 86) (lk 8 127) ?_
                  refine last_ (i := 7) (N := none) (lk 8 255) rfl rfl (one_of HT_.out (by kernel_rfl)) (by decide) (fun K hK => ?_)
                  refine skip_ (w1 := ?_) (by rfl) rfl ?_ ?_
                  rotate_left
                  · go_simp
                    rfl
                  refine hK.out _ _ ?_
                  clear hK K
                  refine done_ (done_of HT_.out (by kernel_rfl)) ?_
                  
                  go_wp2_with fail
                  go_roundw
                  case rel => exact ⟨r1, _, _, _, _, by go_num, Lib.hid (by have := h64.out; omega), H6, Lib.hid (by rw [HV.out]; exact kt_step HB.out HKN.out)⟩
                  case measure => first | (simp [intOf]; done) | (simp [intOf]; omega)
              · obtain rfl : rr = 0 := by omega
                go_wp2
                go_meet
                case rel => exact ⟨_, _, _, _, _, _, _, _, H4, Lib.hid (kt_end HKN.out (fun _ => rfl))⟩
          go_wp2
          go_meet
          case rel => exact ⟨_, _, _, _, _, _, _, _, H3, Lib.hid (kb0 (by omega) (fun hb => by rw [HB0.out] at hb; rw [Bool.false_or, Bool.or_eq_false_iff, Bool.not_eq_false', Bool.not_eq_false'] at hb; have := nok_len hb.2; omega) k1 k2 k3 k4)⟩
        case rest =>
          clear c1 H3
          obtain ⟨q, bad, nn, s, v4, v5, ns, ts, H4, HKB⟩ := hcut
          have HO1 := Lib.hid (fld_of HB.out HTK.out.1 HTK.out.2 HV1.out.2.2 HV2.out.2.2 HB0.out HKB.out)
          have cD : wc.cell? ⟨bD, 0, none⟩ = some (.bool bad) := (blk_cell H4.out.am.d 0).trans rfl
          cases bad with
          | true =>
            have HJ : Hid (allF l = ([], 40)) := Lib.hid (by
              rw [HF.out, H.out.is, show cnt - i = (cnt - i - 1) + 1 by omega, allL_none (HO1.out.2 rfl)]
              rfl)
            go_wp2
            go_ret2
            exact ⟨.slice none 0 0, by rw [HJ.out]; rfl, by rw [HJ.out]; exact Kd.S_nil _ _ _ _ _, H4.out.am.bel⟩
          | false =>
            obtain ⟨A4, c4, hv4⟩ := Kd.R_slice H4.out.r4
            obtain ⟨A5, c5, hv5⟩ := Kd.R_slice H4.out.r5
            obtain ⟨n4, hn4⟩ : ∃ n, n = ns.length := ⟨_, rfl⟩
            obtain ⟨n5, hn5⟩ : ∃ n, n = ts.length := ⟨_, rfl⟩
            rw [← hn4] at hv4
            rw [← hn5] at hv5
            subst hv4
            subst hv5
            clear hn4 hn5
            obtain ⟨A8, c8, hv8⟩ := Kd.S_slice H.out.row
            obtain ⟨n8, hn8⟩ : ∃ n, n = out.length := ⟨_, rfl⟩
            rw [← hn8] at hv8
            subst hv8
            clear hn8
            have hld := fl_ld H4.out.box rfl
            unfold fldC at hld
            have HMk := Lib.hid (k30_mkM wc w.heap.size (fun k => W0.heap.size ≤ k ∧ k ≠ gF) ⟨tg, kd, nn, s, ns, ts⟩ H4.out.r4 H4.out.r5)
            have HSr := Lib.hid (Kd.S_mono (ok' := fun k => (¬ SAD bA bD k ∧ k ≠ bB) ∧ ¬ (W0.heap.size ≤ k ∧ k ≠ gF)) (Kd.S_kept (Kd.S_bound H.out.row) H4.out.kept (fun k hk => hk.1.1)) (fun k hk => ⟨hk.1, fun e => by have := hk.2.2.1; omega⟩))
            have HOK := Lib.hid (show ∀ k, (W0.heap.size ≤ k ∧ k ≠ gF) → (¬ SAD bA bD k ∧ k ≠ bB) ∧ some k ≠ (Value.slice A8 n8 c8).ownBlock from fun k hk => ⟨⟨H4.out.nSAD hk.1, fun e => by have h1 := H4.out.lB; have h2 := hk.1; omega⟩, fun e => by have h1 := Kd.S_lt H.out.row k e.symm; have h2 := hk.1; omega⟩)
            have HFR := Lib.hid (show ∀ k, wc.heap.size ≤ k → ¬ SAD bA bD k ∧ k ≠ bB from fun k hk => ⟨H4.out.nSAD (Nat.le_trans H4.out.kept.1 hk), fun e => by have h1 := H4.out.lB; have h2 := H4.out.kept.1; omega⟩)
            have HLN := Lib.hid (show (out.length + 1) * 80 ≤ 140737488355328 by have := H.out.len; omega)
            go_wp2_with (first | ((with_reducible refine gate_ (.load 30 (.tmp 9)) rfl ?_); refine wl_load 30 (.tmp 9) rfl rfl _ _ rfl hld ?_) | ((with_reducible refine gate_builtin (b := .append) (xs := #[.tmp 88, .tmp 90]) rfl ?_); at_builtin; refine Kd.S_append k30 (w0 := w) w.heap.size rfl (.tmp 88) (.tmp 90) 31 30 (.agg #[.int .u8 0, .int .u8 0, .int .i64 0, .string ⟨#[]⟩, .slice none 0 0, .slice none 0 0]) 80 rfl Try.underlying31 infoFlZ rfl (by decide) (by decide) (.slice A8 n8 c8) out ⟨tg, kd, nn, s, ns, ts⟩ [.int .u8 tg, .int .u8 kd, .int .i64 nn, .string s, .slice A4 n4 c4, .slice A5 n5 c5] (fun k => ¬ SAD bA bD k ∧ k ≠ bB) (fun k => W0.heap.size ≤ k ∧ k ≠ gF) rfl rfl HMk.out HOK.out HFR.out HSr.out H4.out.am.bel H4.out.am.bel.size HLN.out ?_; intro v9 w9 ho hb hg _; have HS9 := Lib.hid ho; have HB9 := Lib.hid hb; have HG9 := Lib.hid hg; clear ho hb hg) | fail)
            have HLA : Hid (LA w w9 bB bA bD (some ad) l c0 q v9 (out ++ [⟨tg, kd, nn, s, ns, ts⟩]) cnt (i + 1)) := Lib.hid (by
              have ham := H4.out.am
              have hown : ∀ k, (k = bB ∨ k = bA ∨ k = bD) → some k ≠ (Value.slice A8 n8 c8).ownBlock := fun k hk e => by
                have h1 := (Kd.S_R H.out.row).1 k e.symm
                rcases hk with rfl | rfl | rfl
                · exact h1.2 rfl
                · exact h1.1 (Or.inl rfl)
                · exact h1.1 (Or.inr rfl)
              have hkb := HKB.out.2.1 rfl
              refine ⟨⟨HB9.out, ham.gB, ham.gA, ham.gD, ham.nBA, ham.nBD, ham.nAD, ?_, ?_, ?_⟩, HS9.out, ?_, ?_, ?_, HKB.out.1, hkb.2.1, ?_, ?_⟩
              · rw [← HM.out]; exact (HG9.out.block _ (blk_lt ham.B) (hown _ (Or.inl rfl))).trans ham.B
              · exact (HG9.out.block _ (blk_lt ham.a) (hown _ (Or.inr (Or.inl rfl)))).trans ham.a
              · exact (HG9.out.block _ (blk_lt ham.d) (hown _ (Or.inr (Or.inr rfl)))).trans ham.d
              · exact Nat.lt_of_lt_of_le (blk_lt ham.B) HG9.out.size
              · exact Nat.lt_of_lt_of_le (blk_lt ham.a) HG9.out.size
              · exact Nat.lt_of_lt_of_le (blk_lt ham.d) HG9.out.size
              · rw [H.out.is, show cnt - i = (cnt - (i + 1)) + 1 by omega, allL_some (HO1.out.1 rfl)]
              · rw [List.length_append, H.out.len]; rfl)
            have hw8 : IntKind.u8.wrap ((i : Int) + 1) = (i : Int) + 1 := by rw [IntKind.wrap_u8]; omega
            clear cD hld
            go_wp2_with fail
            go_roundw
            case rel => first | exact ⟨i + 1, q, _, by omega, by go_num, HLA⟩ | ((repeat apply Exists.intro); exact ⟨⟨i + 1, q, _, by omega, by go_num, HLA⟩, rfl⟩)
            case measure => first | (simp [intOf]; done) | (simp [intOf]; omega)
      · obtain rfl : i = cnt := by omega
        have HJ : Hid (allF l = judge m (some (out, p))) := Lib.hid (by
          rw [HF.out, H.out.is, Nat.sub_self]
          rfl)
        obtain ⟨A8, c8, hv8⟩ := Kd.S_slice H.out.row
        obtain ⟨n8, hn8⟩ : ∃ n, n = out.length := ⟨_, rfl⟩
        have hn255 : n8 ≤ 255 := by rw [hn8, H.out.len]; exact hc255
        rw [← hn8] at hv8
        subst hv8
        have HN8 := Lib.hid hn8
        clear hn8
        have cA : wr.cell? ⟨bA, 0, none⟩ = some (.int .i64 p) := (blk_cell H.out.am.a 0).trans rfl
        have cB : wr.cell? ⟨bB, 0, none⟩ = some (.slice (some ad) m c0) := by rw [HM.out]; exact (blk_cell H.out.am.B 0).trans rfl
        have HRd := Lib.hid (Kd.S_reads' H.out.row)
        have HRt := Lib.hid (show Calls Try.prog 10 #[.slice A8 n8 c8] wr fun e w' => e = .returned (.bool (rightL out)) ∧ Below wr.heap.size wr w' by
          rw [HN8.out]
          exact rightL_calls out A8 c8 wr (by have := HN8.out; omega) HRd.out.2.2 (by have := HRd.out; omega))
        by_cases hpm : p = (m : Int)
        · have hpb : (p != (m : Int)) = false := by simp [hpm]
          have HPM := Lib.hid hpm
          clear hpm
          go_wp2_with fail
          refine HRt.out.mono ?_
          rintro e w3 ⟨rfl, hb⟩
          have HB3 := Lib.hid (below_then H.out.am.bel H.out.am.bel.size hb)
          have HS3 := Lib.hid (Kd.S_below H.out.row hb)
          clear hb HRt cA cB hpb
          cases hro : rightL out with
          | false =>
            have HE : Hid (allF l = ([], 40)) := Lib.hid (by rw [HJ.out]; unfold judge; simp only; rw [if_neg (by rw [hro]; simp)])
            go_wp2
            go_ret2
            exact ⟨.slice none 0 0, by rw [HE.out]; rfl, by rw [HE.out]; exact Kd.S_nil _ _ _ _ _, HB3.out⟩
          | true =>
            have HE : Hid (allF l = (out, 0)) := Lib.hid (by rw [HJ.out]; unfold judge; simp only; rw [if_pos ⟨HPM.out, hro⟩])
            go_wp2
            go_ret2
            exact ⟨.slice A8 n8 c8, by rw [HE.out]; rfl, by rw [HE.out]; exact Kd.S_mono HS3.out (fun _ _ => trivial), HB3.out⟩
        · have hpb : (p != (m : Int)) = true := by simp [hpm]
          have HE : Hid (allF l = ([], 40)) := Lib.hid (by rw [HJ.out]; unfold judge; simp only; rw [if_neg (fun h => hpm h.1)])
          have HBx := Lib.hid H.out.am.bel
          clear HRt
          go_wp2
          go_ret2
          exact ⟨.slice none 0 0, by rw [HE.out]; rfl, by rw [HE.out]; exact Kd.S_nil _ _ _ _ _, HBx.out⟩
end Go.Proofs.Ytnhkbjihgepapaa.Fd
-- printed by wprint.py (this session's program over the kit's print.py)
namespace Go.Proofs.Ytnhkbjihgepapaa.PF
open Go.RowKit Go.Proofs.YtnhkbjihgepapaaW.PrintWords Go.Proofs.YtnhkbjihgepapaaW.PrintLast Go.Proofs.YtnhkbjihgepapaaW.PrintMore
attribute [local go_sem] max2_int min2_int max_two min_two max_three min_three max_four min_four   -- for this text's walks alone
set_option linter.unusedVariables false
set_option linter.unusedSimpArgs false

/-! ### field_All: function 11 -/
def field_All.f (l0 : List Int) : Option (List (S30) × Int) := if Fd.okBytes l0 = true then some (Fd.allF l0) else none
theorem field_All.calls (A0 : Option Addr) (c0 : Nat) (l0 : List Int) (r1 : List (S30)) (r2 : Int) (w : World) (hr0 : Kd.C (Kd.int .u8) w A0 l0.length l0) (hc0 : l0.length ≤ c0) (h : field_All.f l0 = some (r1, r2)) :
    Calls Try.prog 11 #[.slice A0 l0.length c0] w fun e w' => ∃ v0_ : Value, e = .returned (.tuple #[v0_, .int .i64 r2]) ∧ Kd.S k30 30 w' w.heap.size (fun _ => True) v0_ r1 ∧ Below w.heap.size w w' := by
  unfold field_All.f at h
  split at h
  · rename_i ho
    have hh := Option.some.inj h
    have := Fd.all_calls A0 c0 l0 w hr0 hc0 ho
    rw [hh] at this
    exact this
  · cases h

end Go.Proofs.Ytnhkbjihgepapaa.PF
-- printed by wprint.py (this session's program over the kit's print.py)
namespace Go.Proofs.Ytnhkbjihgepapaa.PF
open Go.RowKit Go.Proofs.YtnhkbjihgepapaaW.PrintWords Go.Proofs.YtnhkbjihgepapaaW.PrintLast Go.Proofs.YtnhkbjihgepapaaW.PrintMore
attribute [local go_sem] max2_int min2_int max_two min_two max_three min_three max_four min_four   -- for this text's walks alone
set_option linter.unusedVariables false
set_option linter.unusedSimpArgs false

/-! ### musterlaw04_twoBytes: function 12 -/
def musterlaw04_twoBytes.f  : Option (List Int) := some (([2, 1, 1, 0, 0, 0, 0, 0, 0, 0, 5, 2, 2, 0, 2, 97, 98] : List Int))
set_option maxHeartbeats 8000000 in
set_option maxRecDepth 100000 in
theorem musterlaw04_twoBytes.calls  (r : List Int) (w : World) (h : musterlaw04_twoBytes.f  = some r) :
    Calls Try.prog 12 #[] w fun e w' => ∃ v0_ : Value, e = .returned (v0_) ∧ Kd.R (Kd.int .u8) 5 w' w.heap.size (fun _ => True) v0_ r ∧ Below w.heap.size w w' := by
  have HB := Aside0.mk (Below.refl w.heap.size w)
  have H : (some (([2, 1, 1, 0, 0, 0, 0, 0, 0, 0, 5, 2, 2, 0, 2, 97, 98] : List Int))) = some r := h
  clear h
  obtain ⟨y163, hy163⟩ : ∃ y_ : List Int, y_ = (([2, 1, 1, 0, 0, 0, 0, 0, 0, 0, 5, 2, 2, 0, 2, 97, 98] : List Int)) := ⟨_, rfl⟩
  replace H : (some y163) = some r := by first | (rw [hy163]; with_reducible exact H) | (have H2_ := (Option.bind_some _ _).symm.trans H; rw [hy163]; with_reducible exact H2_) | (have H2_ := (Option.bind_some _ _).symm.trans H; with_reducible exact H2_) | with_reducible exact H | (rw [hy163]; exact H) | exact H
  have Ny163 := Aside0.mk hy163
  clear hy163
  obtain rfl := Option.some.inj H
  go_enter Try.func12, Try.ntmps12
  go_wp2_with (first | ((with_reducible refine gate_dst (N := 1) rfl ?_); refine Kd.R_lit (Kd.int .u8) _ 5 ?hg (N := 1) ?hd (xs := ([2, 1, 1, 0, 0, 0, 0, 0, 0, 0, 5, 2, 2, 0, 2, 97, 98] : List Int)) (inner := [.int .u8 2, .int .u8 1, .int .u8 1, .int .u8 0, .int .u8 0, .int .u8 0, .int .u8 0, .int .u8 0, .int .u8 0, .int .u8 0, .int .u8 5, .int .u8 2, .int .u8 2, .int .u8 0, .int .u8 2, .int .u8 97, .int .u8 98]) (ok := fun _ => True) (okp := fun _ => True) ?hr ?hp (fun _ hk => hk) trivial (Below.refl _ _) (Nat.le_refl _) (by simp) ?_; (case hd => rfl); (case hg => rfl); (case hr => first | (go_simp; done) | (go_simp; rfl)); (case hp => exact (Reps.one (show Kd.M (Kd.int .u8) _ _ _ 2 [.int .u8 2] from rfl) (Reps.one (show Kd.M (Kd.int .u8) _ _ _ 1 [.int .u8 1] from rfl) (Reps.one (show Kd.M (Kd.int .u8) _ _ _ 1 [.int .u8 1] from rfl) (Reps.one (show Kd.M (Kd.int .u8) _ _ _ 0 [.int .u8 0] from rfl) (Reps.one (show Kd.M (Kd.int .u8) _ _ _ 0 [.int .u8 0] from rfl) (Reps.one (show Kd.M (Kd.int .u8) _ _ _ 0 [.int .u8 0] from rfl) (Reps.one (show Kd.M (Kd.int .u8) _ _ _ 0 [.int .u8 0] from rfl) (Reps.one (show Kd.M (Kd.int .u8) _ _ _ 0 [.int .u8 0] from rfl) (Reps.one (show Kd.M (Kd.int .u8) _ _ _ 0 [.int .u8 0] from rfl) (Reps.one (show Kd.M (Kd.int .u8) _ _ _ 0 [.int .u8 0] from rfl) (Reps.one (show Kd.M (Kd.int .u8) _ _ _ 5 [.int .u8 5] from rfl) (Reps.one (show Kd.M (Kd.int .u8) _ _ _ 2 [.int .u8 2] from rfl) (Reps.one (show Kd.M (Kd.int .u8) _ _ _ 2 [.int .u8 2] from rfl) (Reps.one (show Kd.M (Kd.int .u8) _ _ _ 0 [.int .u8 0] from rfl) (Reps.one (show Kd.M (Kd.int .u8) _ _ _ 2 [.int .u8 2] from rfl) (Reps.one (show Kd.M (Kd.int .u8) _ _ _ 97 [.int .u8 97] from rfl) (Reps.one (show Kd.M (Kd.int .u8) _ _ _ 98 [.int .u8 98] from rfl) (Reps.none _ _))))))))))))))))))); intro v164 w1 ho2 hb hg_ hnew_; clear hg_ hnew_; (first | rw [← Ny163.out] at ho2 | (simp only [Int.reduceToNat] at ho2; rw [← Ny163.out] at ho2)); have n0_ := Aside0.mk (Kd.R_lower ho2 (below_size (by repeat (first | (with_reducible first | exact HB.out | apply below_alloc | apply pw_below_drewN | apply below_drew1) | exact HB.out)))); have n1_ := Aside0.mk (below_step (by repeat (first | (with_reducible first | exact HB.out | apply below_alloc | apply pw_below_drewN | apply below_drew1) | exact HB.out)) hb); clear HB; have HO165 := n0_; have HB := n1_; clear n0_ n1_; clear hb ho2))
  go_ret
  exact ⟨_, by first | rfl | (simp [errW_none, errW_some] <;> rfl) | (simp [*, errW_none, errW_some] <;> rfl), by (with_reducible repeat (first | apply Kd.R_alloc | apply Kd.R_drewN | apply Kd.R_drew)); exact HO165.out, by repeat (first | (with_reducible first | exact HB.out | apply below_alloc | apply pw_below_drewN | apply below_drew1) | exact HB.out)⟩

-- NOT PRINTED: function 38 (api_Field)

-- NOT PRINTED: function 40 (slices_Clone_int64_int64)

-- NOT PRINTED: function 41 (slices_Clone_string_string)

end Go.Proofs.Ytnhkbjihgepapaa.PF
/- field.Get. -/
set_option linter.unusedVariables false
set_option linter.unusedSimpArgs false
namespace Go.Proofs.Ytnhkbjihgepapaa.Fd
open Go.RowKit Go.Proofs.YtnhkbjihgepapaaW.PrintWords Go.Proofs.YtnhkbjihgepapaaW.PrintLast Go.Proofs.YtnhkbjihgepapaaW.PrintMore Go.Proofs.Ytnhkbjihgepapaa.PF Go.Proofs.Ytnhkbjihgepapaa.Oct Go.Proofs.Ytnhkbjihgepapaa.Gen
def field_Get.T5 : Bool × List (List Nat × List Nat) := (true, [([], []), ([0], [0]), ([1], [1]), ([], []), ([3], [3]), ([4, 2], [4]), ([0, 1, 2, 3, 4], []), ([6, 2, 5, 0, 1, 2, 3, 4], [2, 6]), ([0, 1, 2, 3, 4, 5, 6, 7], []), ([8, 5, 7, 0, 1, 2, 3, 4, 5, 6, 7], [5, 8])])
def field_Get.B5 : List Nat := [0, 1, 3, 0, 8, 31, 31, 127, 255, 511]
theorem field_Get.tab5 : rtab .any (opsOf Try.f16 5) = field_Get.T5 := by kernel_rfl
theorem field_Get.bits5 : waitsOk field_Get.T5.2 field_Get.B5 = true := by kernel_rfl
theorem infoFg : (Try.prog.info? 30).map (·.size) = some 6 := by kernel_rfl
theorem exec_store {P : Program} {o : Oper} {a : Act} {t : TypeId} {p v : Operand} {W : World} {g : Nat} {t0 : TypeId} {old cells : Array Value} (ho : o.op = .store t p v) (hp : a.eval p = .pointer (some ⟨g, 0, none⟩)) (hv : a.eval v = .agg cells) (hg : W.heap[g]? = some (.cells old t0 (0, 0)))
    (hi : (P.info? t).map (·.size) = some cells.size) (hs : old.size = cells.size) (h1 : cells.all (·.oneCell') = true) : (execOp a.eval o).run P W = .ok .skip (W.setRow g cells) := by
  have h2 := run_storeVar_row (P := P) W g t0 t old cells hg hi hs h1
  unfold execOp
  rw [ho]
  simp only [hp, hv, Instr.storeAt, Instr.sureAddr, Sem.run_bind, Sem.run_pure, Result.andThen_ok, h2]
theorem wl_store {P : Program} {ops : Array Oper} {rest : List Oper} {o : Oper} {a : Act} {Q : Exit → Act → World → Prop} (t : TypeId) (p v : Operand) {W : World} {g : Nat} {t0 : TypeId} {old cells : Array Value} (ho : o.op = .store t p v) (hgd : o.guard = none) (hp : a.eval p = .pointer (some ⟨g, 0, none⟩)) (hv : a.eval v = .agg cells) (hg : W.heap[g]? = some (.cells old t0 (0, 0)))
    (hi : (P.info? t).map (·.size) = some cells.size) (hs : old.size = cells.size) (h1 : cells.all (·.oneCell') = true)
    (h : wpList P ops Q rest (a.put o.dst undef) (W.setRow g cells)) : wpList P ops Q (o :: rest) a W :=
  wpList_plain hgd fun K hK => by
    unfold Oper.wp
    rw [exec_store ho hp hv hg hi hs h1]
    exact hK _ _ h
theorem fg_ld {w : World} {g : Nat} {C : Array Value} (h : w.heap[g]? = some (.cells C 30 (0, 0))) (hs : C.size = 6) : (Instr.loadAt 30 (.pointer (some ⟨g, 0, none⟩))).run Try.prog w = .ok (.agg C) w := by
  have hld := run_loadVar_row (P := Try.prog) w g 30 30 C (0, 0) _ h Try.underlying30 rfl (by rw [hs]; exact infoFg)
  simp only [Instr.loadAt, Instr.sureAddr, Sem.run_bind, Sem.run_pure, Result.andThen_ok, hld]
theorem keep_R {α : Type} {d : Kd α} {e base b0 : Nat} {W W' : World} {v : Value} {xs : List α} (h : d.R e W base (fun _ => True) v xs) (hk : ∀ k, base ≤ k → k < W.heap.size → W'.heap[k]? = W.heap[k]?) (hb : b0 ≤ base) : d.R e W' b0 (fun _ => True) v xs :=
  Kd.R_lower (Kd.R_mono (Kd.R_step (Kd.R_bound h) (fun k hk' hlt => hk k hk'.2.1 hlt)) (fun _ _ => trivial)) hb
def tagIs (t : Int) (x : S30) : Bool := x.f0 == t
def getT (l : List S30) (t : Int) : Int × Int × Int × ByteArray × List Int × List ByteArray × Bool := match l.find? (tagIs t) with
  | some x => (x.f0, x.f1, x.f2, x.f3, x.f4, x.f5, true)
  | none => (0, 0, 0, ⟨#[]⟩, [], [], false)
def okGet (l : List S30) : Bool := l.all (fun x => decide (x.f4.length * 8 ≤ 140737488355328) && decide (x.f5.length * 16 ≤ 140737488355328))
set_option maxRecDepth 100000 in
theorem tag_calls (x : S30) (A4 : Option Addr) (c4 : Nat) (A5 : Option Addr) (c5 b : Nat) (t : Int) (w : World) (h : w.cell? ⟨b, 0, none⟩ = some (.int .u8 t)) :
    Calls Try.prog 39 #[.agg #[.int .u8 x.f0, .int .u8 x.f1, .int .i64 x.f2, .string x.f3, .slice A4 x.f4.length c4, .slice A5 x.f5.length c5], .pointer (some ⟨b, 0, none⟩)] w fun e w' => e = .returned (.bool (tagIs t x)) ∧ Below w.heap.size w w' := by
  have ho : ∀ o, (w.alloc o).cell? ⟨b, 0, none⟩ = some (.int .u8 t) := fun o => ((below_alloc (Below.refl _ w) o).cell (World.block_lt_of_cell? w _ h)).trans h
  have HB := Lib.hid (below_alloc (Below.refl _ w) (.cells #[.int .u8 x.f0, .int .u8 x.f1, .int .i64 x.f2, .string x.f3, .slice A4 x.f4.length c4, .slice A5 x.f5.length c5] 30))
  clear h
  go_enter Try.func39, Try.ntmps39
  go_wp2
  go_ret
  exact ⟨rfl, HB.out⟩
theorem find_idx {l : List S30} {p : S30 → Bool} {j : Nat} (hj : j < l.length) (h : idxOf l p = (j : Int)) : l.find? p = some l[j] := by
  unfold idxOf at h
  split at h
  · have e : l.findIdx p = j := by omega
    subst e
    rw [List.find?_eq_some_iff_getElem]
    exact ⟨List.findIdx_getElem (w := hj), l.findIdx p, hj, rfl, fun i hi => by simpa using List.not_of_lt_findIdx hi⟩
  · omega
theorem find_no {l : List S30} {p : S30 → Bool} (h : l.any p = false) : l.find? p = none := by
  rw [List.find?_eq_none]
  exact fun x hx => by simpa using List.any_eq_false.1 h x hx
theorem flatI : Flat (Kd.int .i64) := fun _ _ _ _ _ h => h
theorem flatS : Flat Kd.string := fun _ _ _ _ _ h => h
set_option maxRecDepth 100000 in
set_option maxHeartbeats 8000000 in
theorem get_calls (l : List S30) (A : Option Addr) (c : Nat) (t : Int) (w : World) (hr : Kd.C k30 w A l.length l) (hc : l.length ≤ c) (hok : okGet l = true) :
    Calls Try.prog 16 #[.slice A l.length c, .int .u8 t] w fun e w' => ∃ v4_ v5_ : Value, e = .returned (.tuple #[.agg #[.int .u8 (getT l t).1, .int .u8 (getT l t).2.1, .int .i64 (getT l t).2.2.1, .string (getT l t).2.2.2.1, v4_, v5_], .bool (getT l t).2.2.2.2.2.2]) ∧ Kd.R (Kd.int .i64) 2 w' w.heap.size (fun _ => True) v4_ (getT l t).2.2.2.2.1 ∧ Kd.R Kd.string 9 w' w.heap.size (fun _ => True) v5_ (getT l t).2.2.2.2.2.1 ∧ Below w.heap.size w w' := by
  have he : ∀ args w, (callFunc 39 args).run Try.prog w = .ok (.enter 39 args) w := enters_of Try.func39 (by kernel_rfl) rfl
  have hmf : ∀ (fn : Fn) (first cap : Array Value) (w : World), (Instr.makeFunc fn first cap).run Try.prog w = .ok (.func fn first cap) w := fun _ _ _ _ => rfl
  have H := Lib.hid (fun (W : World) (hW : Below w.heap.size w W) (b : Nat) (h1 : W.cell? ⟨b, 0, none⟩ = some (.int .u8 t)) =>
    index30 k30 rfl l A c W 39 #[.pointer (some ⟨b, 0, none⟩)] (tagIs t) (Kd.C_below hr hW) hc he (fun x _ cs w' hb hK => by
      obtain ⟨A4, c4, A5, c5, rfl, _⟩ := k30_open hK
      exact tag_calls x A4 c4 A5 c5 b t w' ((hb.cell (World.block_lt_of_cell? W _ h1)).trans h1)))
  have hlen : l.length ≤ 9223372036854775807 := hr.2.1
  have HR := Lib.hid hr
  have HOK := Lib.hid hok
  obtain ⟨n, hn⟩ : ∃ n, n = l.length := ⟨_, rfl⟩
  rw [← hn] at H hlen ⊢
  have HN := Lib.hid hn
  clear hr hc he hok hn
  have hb1 := below_alloc (Below.refl w.heap.size w) (.cells #[.int .u8 t] 5)
  have hb2 := below_alloc hb1 (.cells #[.int .u8 0, .int .u8 0, .int .i64 0, .string ⟨#[]⟩, .slice none 0 0, .slice none 0 0] 30)
  have e1 := heap_alloc_new w (.cells #[.int .u8 t] 5)
  have e2 := heap_alloc_new (w.alloc (.cells #[.int .u8 t] 5)) (.cells #[.int .u8 0, .int .u8 0, .int .i64 0, .string ⟨#[]⟩, .slice none 0 0, .slice none 0 0] 30)
  have e3 := blk_below e1 (below_alloc (Below.refl (w.alloc (.cells #[.int .u8 t] 5)).heap.size (w.alloc (.cells #[.int .u8 t] 5))) (.cells #[.int .u8 0, .int .u8 0, .int .i64 0, .string ⟨#[]⟩, .slice none 0 0, .slice none 0 0] 30))
  have es : (w.alloc (.cells #[.int .u8 t] 5)).heap.size = w.heap.size + 1 := by unfold World.alloc; simp
  rw [es] at e2
  have HB := Lib.hid hb2
  have HZ := Lib.hid e2
  have HT := Lib.hid e3
  clear hb1 hb2 e1 e2 e3 es
  go_enter Try.func16, Try.ntmps16
  go_upto_region 1 with (fail)
  generalize World.alloc _ _ = W at HB HZ HT ⊢
  obtain ⟨b, hbb⟩ : ∃ g, g = w.heap.size := ⟨_, rfl⟩
  have hbz : w.heap.size ≤ b + 1 := by omega
  rw [← hbb] at HZ HT ⊢
  have HGB := Lib.hid (And.intro hbb hbz)
  clear hbb hbz
  go_wp2_with fail
  refine (H.out W HB.out b ((blk_cell HT.out 0).trans rfl)).mono ?_
  rintro e w1 ⟨rfl, hb⟩
  have HB1 := Lib.hid (below_then HB.out HB.out.size hb)
  have HZ1 := Lib.hid (blk_below HZ.out hb)
  clear hb HB HZ HT H
  cases ha : l.any (tagIs t) with
  | false =>
    have HG : Hid (getT l t = (0, 0, 0, ⟨#[]⟩, [], [], false)) := Lib.hid (by unfold getT; rw [find_no ha])
    have hi : idxOf l (tagIs t) = -1 := by unfold idxOf; rw [ha]; rfl
    rw [hi]
    clear hi
    go_wp2_with (first | ((with_reducible refine gate_store (t := 30) (p := 4) rfl ?_); refine wl_store (old := #[.int .u8 0, .int .u8 0, .int .i64 0, .string ⟨#[]⟩, .slice none 0 0, .slice none 0 0]) (cells := #[.int .u8 0, .int .u8 0, .int .i64 0, .string ⟨#[]⟩, .slice none 0 0, .slice none 0 0]) 30 (.tmp 4) (.tmp 13) rfl rfl rfl rfl HZ1.out infoFg rfl (by simp [Value.oneCell']) ?_) | fail)
    refine bodyPost_ret (results_ct rfl _ _ (b + 1) 30 #[.int .u8 0, .int .u8 0, .int .i64 0, .string ⟨#[]⟩, .slice none 0 0, .slice none 0 0] (0, 0) _ rfl (setRow_heap _ _ _ _ _ _ HZ1.out) Try.underlying30 rfl infoFg) rfl ?_
    rw [HG.out]
    exact ⟨_, _, rfl, Kd.R_nil _ _ _ _ _, Kd.R_nil _ _ _ _ _, below_setRow HB1.out HGB.out.2 _⟩
  | true =>
    obtain ⟨j, hj, hi⟩ := idxOf_some ha
    have HG : Hid (getT l t = (l[j].f0, l[j].f1, l[j].f2, l[j].f3, l[j].f4, l[j].f5, true)) := Lib.hid (by unfold getT; rw [find_idx hj hi])
    have HK2 : Hid (l[j].f4.length * 8 ≤ 140737488355328 ∧ l[j].f5.length * 16 ≤ 140737488355328) := Lib.hid (by
      have := List.all_eq_true.1 HOK.out l[j] (List.getElem_mem hj)
      rw [Bool.and_eq_true, decide_eq_true_iff, decide_eq_true_iff] at this
      exact this)
    rw [hi]
    clear hi ha
    obtain ⟨ad, cs, eA, hK, hld0⟩ := load_mid (t := 30) Try.underlying30 rfl infoFg HR.out j hj
    obtain ⟨x, hx⟩ : ∃ x, x = l[j] := ⟨_, rfl⟩
    rw [← hx] at hK HG HK2
    obtain ⟨A4, c4, A5, c5, rfl, hc4, hr4, hc5, hr5⟩ := k30_open hK
    have HD4 := Lib.hid (And.intro hr4 hc4)
    have HD5 := Lib.hid (And.intro hr5 hc5)
    have hjn : j < n := by rw [HN.out]; exact hj
    have hld : (Instr.loadAt 30 (.pointer (some (ad.add (j * 6))))).run Try.prog w1 = .ok (.agg #[.int .u8 x.f0, .int .u8 x.f1, .int .i64 x.f2, .string x.f3, .slice A4 x.f4.length c4, .slice A5 x.f5.length c5]) w1 := hld0 w1 HB1.out
    clear hld0 hK hr4 hc4 hr5 hc5 hx hj
    cases eA
    obtain ⟨n4, hn4⟩ : ∃ m, m = x.f4.length := ⟨_, rfl⟩
    obtain ⟨n5, hn5⟩ : ∃ m, m = x.f5.length := ⟨_, rfl⟩
    rw [← hn4, ← hn5] at hld
    have HN4 := Lib.hid (And.intro hn4 hn5)
    clear hn4 hn5
    go_upto_region 5 with ((with_reducible refine gate_ (.load 30 (.tmp 16)) rfl ?_); refine wl_load 30 (.tmp 16) rfl rfl _ _ rfl hld ?_)
    have HX : Hid ((w1.alloc (.cells #[.int .u8 x.f0, .int .u8 x.f1, .int .i64 x.f2, .string x.f3, .slice A4 n4 c4, .slice A5 n5 c5] 30)).heap[w1.heap.size]? = some (.cells #[.int .u8 x.f0, .int .u8 x.f1, .int .i64 x.f2, .string x.f3, .slice A4 n4 c4, .slice A5 n5 c5] 30 (0, 0))) := Lib.hid (heap_alloc_new w1 _)
    have hba := below_alloc (Below.refl w1.heap.size w1) (.cells #[.int .u8 x.f0, .int .u8 x.f1, .int .i64 x.f2, .string x.f3, .slice A4 n4 c4, .slice A5 n5 c5] 30)
    have HB2 := Lib.hid (below_then HB1.out HB1.out.size hba)
    have HZ2 := Lib.hid (blk_below HZ1.out hba)
    have HGX := Lib.hid (show w.heap.size ≤ w1.heap.size from HB1.out.size)
    have HNE := Lib.hid (show b + 1 < w1.heap.size from blk_lt HZ1.out)
    clear hba hld HZ1 HB1
    generalize World.alloc w1 _ = W2 at HX HB2 HZ2 ⊢
    obtain ⟨gx, hgx⟩ : ∃ y, y = w1.heap.size := ⟨_, rfl⟩
    rw [← hgx] at HX HGX HNE ⊢
    clear hgx
    have HX3 := Lib.hid (show W2.drew.heap[gx]? = _ from HX.out)
    have HB3 := Lib.hid (below_drew HB2.out)
    have HK5 := Lib.hid (fun (W : World) (hb : Below w.heap.size w W) => show Calls Try.prog 41 #[.slice A5 n5 c5] W fun e w' => ∃ v0_ : Value, e = .returned v0_ ∧ Kd.R Kd.string 9 w' W.heap.size (fun _ => True) v0_ x.f5 ∧ Below W.heap.size W w' by
      rw [HN4.out.2]
      exact clone9 Kd.string rfl flatS x.f5 A5 c5 W (Kd.C_below HD5.out.1 hb) HD5.out.2 HK2.out.2)
    have HC4 := Lib.hid (show Calls Try.prog 40 #[.slice A4 n4 c4] W2.drew fun e w' => ∃ v0_ : Value, e = .returned v0_ ∧ Kd.R (Kd.int .i64) 2 w' W2.drew.heap.size (fun _ => True) v0_ x.f4 ∧ Below W2.drew.heap.size W2.drew w' by
      rw [HN4.out.1]
      exact clone2 (Kd.int .i64) rfl flatI x.f4 A4 c4 W2.drew (Kd.C_below HD4.out.1 HB3.out) HD4.out.2 HK2.out.1)
    refine start_ (n := 10) (S := fun w' => w'.cell? ⟨gx, 4, none⟩ = some (.slice A4 n4 c4) ∧ w'.cell? ⟨gx, 5, none⟩ = some (.slice A5 n5 c5)) (ds := [7, 9]) (lk 10 0) (by kernel_rfl) rfl rfl ⟨(blk_cell HX3.out 4).trans rfl, (blk_cell HX3.out 5).trans rfl⟩ (fun hHeld => ?_)
    refine with_tabW field_Get.tab5 field_Get.bits5 (fun HT_ HW_ => ?_)
    refine pu (i := 0) (N := some 18) (lk 10 1) ?_
    refine pu (i := 3) (N := some 21) (lk 10 9) ?_
    refine tk2 (i := 1) (N := some 19) (lk 10 11) ?_
    refine tk2 (i := 4) (N := some 22) (lk 10 27) ?_
    refine on1 (i := 2) (N := some 20) (lk 10 31) (fun K hK => ?_)
    refine goes_ Try.func40 (by kernel_rfl) rfl #[.slice A4 n4 c4] (by rfl) rfl rfl (by simp only [List.map_toArray, List.map_cons, List.map_nil]; rfl) ?_
    with_reducible refine (HC4.out).mono ?_
    rintro e W5 ⟨v4, rfl, ho, hb⟩
    refine ⟨_, rfl, ?_⟩
    obtain ⟨A6, c6, hv⟩ := Kd.R_slice ho
    rw [← HN4.out.1] at hv
    subst hv
    have HO4 := Lib.hid ho
    have HB5 := Lib.hid hb
    have HX5 := Lib.hid (blk_below HX3.out hb)
    have HC5 := Lib.hid (HK5.out W5 (below_then HB3.out HB3.out.size hb))
    clear ho hb HC4 HK5
    refine hK.out _ _ ⟨(blk_cell HX5.out 4).trans rfl, (blk_cell HX5.out 5).trans rfl⟩ (fun hHeld => ?_)
    clear hK K
    refine nm (some 20) ?_
    refine pu (i := 6) (N := some 24) (lk 10 95) ?_
    refine on1 (i := 5) (N := some 23) (lk 10 127) (fun K hK => ?_)
    refine goes_ Try.func41 (by kernel_rfl) rfl #[.slice A5 n5 c5] (by rfl) rfl rfl (by simp only [List.map_toArray, List.map_cons, List.map_nil]; rfl) ?_
    with_reducible refine (HC5.out).mono ?_
    rintro e W6 ⟨v5, rfl, ho, hb⟩
    refine ⟨_, rfl, ?_⟩
    obtain ⟨A7, c7, hv⟩ := Kd.R_slice ho
    rw [← HN4.out.2] at hv
    subst hv
    have HO5 := Lib.hid ho
    have HB6 := Lib.hid hb
    have HX6 := Lib.hid (blk_below HX5.out hb)
    have z4 : W6.frozen? ⟨gx, 4, none⟩ = false := blk_frozen HX6.out 4
    have z5 : W6.frozen? ⟨gx, 5, none⟩ = false := blk_frozen HX6.out 5
    clear ho hb HC5
    refine hK.out _ _ ⟨(blk_cell HX6.out 4).trans rfl, (blk_cell HX6.out 5).trans rfl⟩ (fun hHeld => ?_)
    clear hK K
    refine nm (some 23) ?_
    refine last_ (i := 7) (N := none) (lk 10 255) rfl rfl (one_of HT_.out (by kernel_rfl)) (by decide) (fun K hK => ?_)
    refine skip_ (w1 := ?_) (by rfl) rfl ?_ ?_
    rotate_left
    · go_simp
      rfl
    refine hK.out _ _ ?_
    clear hK K
    refine pu (i := 8) (N := some 25) (lk 10 511) ?_
    refine last_ (i := 9) (N := none) (lk 10 1023) rfl rfl (one_of HT_.out (by kernel_rfl)) (by decide) (fun K hK => ?_)
    refine skip_ (w1 := ?_) (by rfl) rfl ?_ ?_
    rotate_left
    · go_simp
      rfl
    refine hK.out _ _ ?_
    clear hK K
    refine done_ (done_of HT_.out (by kernel_rfl)) ?_
    
    have hgz : gx ≠ b + 1 := by have := HNE.out; omega
    have HS2 : Hid (gx < W2.drew.heap.size) := Lib.hid (blk_lt HX3.out)
    have HZ6 := Lib.hid (blk_below (blk_below (show W2.drew.heap[b + 1]? = _ from HZ2.out) HB5.out) HB6.out)
    have HB7 := Lib.hid (below_set (g := gx) (j := 5) (v := .slice A7 n5 c7) (below_set (g := gx) (j := 4) (v := .slice A6 n4 c6) (below_then (below_then HB3.out HB3.out.size HB5.out) (below_then HB3.out HB3.out.size HB5.out).size HB6.out) HGX.out) HGX.out)
    have HX7 : Hid (((W6.setCell ⟨gx, 4, none⟩ (.slice A6 n4 c6)).setCell ⟨gx, 5, none⟩ (.slice A7 n5 c7)).heap[gx]? = some (.cells #[.int .u8 x.f0, .int .u8 x.f1, .int .i64 x.f2, .string x.f3, .slice A6 n4 c6, .slice A7 n5 c7] 30 (0, 0))) := Lib.hid (blk_put (blk_put HX6.out 4 _ rfl) 5 _ rfl)
    have HZ7 := Lib.hid (blk_far (p := ⟨gx, 5, none⟩) (blk_far (p := ⟨gx, 4, none⟩) HZ6.out hgz.symm (.slice A6 n4 c6)) hgz.symm (.slice A7 n5 c7))
    have HF7 := Lib.hid (show ∀ k, k ≠ gx → ((W6.setCell ⟨gx, 4, none⟩ (.slice A6 n4 c6)).setCell ⟨gx, 5, none⟩ (.slice A7 n5 c7)).heap[k]? = W6.heap[k]? from fun k hk => (Below.heap_setCell _ ⟨gx, 5, none⟩ _ k hk).trans (Below.heap_setCell _ ⟨gx, 4, none⟩ _ k hk))
    clear HZ6 HX6 HX5 HX3 HX z4 z5 hHeld HZ2 HB2
    generalize World.setCell _ _ _ = W7 at HB7 HX7 HZ7 HF7 ⊢
    go_wp2_with (first | ((with_reducible refine gate_ (.load 30 (.tmp 7)) rfl ?_); refine wl_load 30 (.tmp 7) rfl rfl _ _ rfl (fg_ld HX7.out rfl) ?_) | ((with_reducible refine gate_store (t := 30) (p := 4) rfl ?_); refine wl_store (old := #[.int .u8 0, .int .u8 0, .int .i64 0, .string ⟨#[]⟩, .slice none 0 0, .slice none 0 0]) (cells := #[.int .u8 x.f0, .int .u8 x.f1, .int .i64 x.f2, .string x.f3, .slice A6 n4 c6, .slice A7 n5 c7]) 30 (.tmp 4) (.tmp 26) rfl rfl rfl rfl HZ7.out infoFg rfl (by simp [Value.oneCell']) ?_) | fail)
    refine bodyPost_ret (results_ct rfl _ _ (b + 1) 30 #[.int .u8 x.f0, .int .u8 x.f1, .int .i64 x.f2, .string x.f3, .slice A6 n4 c6, .slice A7 n5 c7] (0, 0) _ rfl (setRow_heap _ _ _ _ _ _ HZ7.out) Try.underlying30 rfl infoFg) rfl ?_
    rw [HG.out]
    have hw2 : w.heap.size ≤ W2.drew.heap.size := HB3.out.size
    refine ⟨_, _, rfl, keep_R HO4.out (fun k h1 h2 => ?_) hw2, keep_R HO5.out (fun k h1 h2 => ?_) (Nat.le_trans hw2 HB5.out.size), below_setRow HB7.out HGB.out.2 _⟩
    · have h3 := HS2.out
      have h4 := HNE.out
      exact (setRow_other _ _ _ _ (by omega)).trans ((HF7.out k (by omega)).trans (HB6.out.block k h2))
    · have h3 := HS2.out
      have h4 := HNE.out
      have h5 := HB5.out.size
      exact (setRow_other _ _ _ _ (by omega)).trans (HF7.out k (by omega))
end Go.Proofs.Ytnhkbjihgepapaa.Fd
-- printed by wprint.py (this session's program over the kit's print.py)
namespace Go.Proofs.Ytnhkbjihgepapaa.PF
open Go.RowKit Go.Proofs.YtnhkbjihgepapaaW.PrintWords Go.Proofs.YtnhkbjihgepapaaW.PrintLast Go.Proofs.YtnhkbjihgepapaaW.PrintMore
attribute [local go_sem] max2_int min2_int max_two min_two max_three min_three max_four min_four   -- for this text's walks alone
set_option linter.unusedVariables false
set_option linter.unusedSimpArgs false

/-! ### field_Get: function 16 -/
def field_Get.f (l0 : List (S30)) (a1 : Int) : Option (Int × Int × Int × ByteArray × List Int × List ByteArray × Bool) := if Fd.okGet l0 = true then some (Fd.getT l0 a1) else none
theorem field_Get.calls (A0 : Option Addr) (c0 : Nat) (l0 : List (S30)) (a1 : Int) (r1 r2 r3 : Int) (r4 : ByteArray) (r5 : List Int) (r6 : List ByteArray) (r7 : Bool) (w : World) (hr0 : Kd.C k30 w A0 l0.length l0) (hc0 : l0.length ≤ c0) (h : field_Get.f l0 a1 = some (r1, r2, r3, r4, r5, r6, r7)) :
    Calls Try.prog 16 #[.slice A0 l0.length c0, .int .u8 a1] w fun e w' => ∃ v4_ v5_ : Value, e = .returned (.tuple #[.agg #[.int .u8 r1, .int .u8 r2, .int .i64 r3, .string r4, v4_, v5_], .bool r7]) ∧ Kd.R (Kd.int .i64) 2 w' w.heap.size (fun _ => True) v4_ r5 ∧ Kd.R Kd.string 9 w' w.heap.size (fun _ => True) v5_ r6 ∧ Below w.heap.size w w' := by
  unfold field_Get.f at h
  split at h
  · rename_i ho
    have hh := Option.some.inj h
    have := Fd.get_calls l0 A0 c0 a1 w hr0 hc0 ho
    rw [hh] at this
    exact this
  · cases h

end Go.Proofs.Ytnhkbjihgepapaa.PF
