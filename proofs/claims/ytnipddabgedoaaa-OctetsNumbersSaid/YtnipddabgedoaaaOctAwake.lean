/- The walk of the octets' awake: the fixed answers. No conditions. -/
import Derived.Test.YtnipddabgedoaaaOctText
set_option linter.unusedVariables false
set_option linter.unusedSimpArgs false
namespace Go.Proofs.Ytnipddabgedoaaa.Oct
open Go.RowKit Go.Proofs.YtnipddabgedoaaaW.PrintWords Go.Proofs.YtnipddabgedoaaaW.PrintMore

theorem same_n (A : Option Addr) (c n : Nat) (l : List Int) (A1 : Option Addr) (c1 n1 : Nat) (m : List Int) (w : World) (hn : l.length = n) (hn1 : m.length = n1) (hr : Kd.C (Kd.int .u8) w A n l) (hr1 : Kd.C (Kd.int .u8) w A1 n1 m) (hl : ∀ x ∈ l, 0 ≤ x ∧ x ≤ 255) (hm : ∀ x ∈ m, 0 ≤ x ∧ x ≤ 255) :
    Calls Try.prog 21 #[.slice A n c, .slice A1 n1 c1] w fun e w' => e = .returned (.bool (decide (l = m))) ∧ Drawn0 w w' := by
  subst hn hn1; exact Low.same_calls A c l A1 c1 m w hr hr1 hl hm

theorem awk_a : nok [128, 0, 0, 1] 0 4 = true := by decide
theorem awk_b : nv [128, 0, 0, 1] 0 4 = 2147483649 := by decide
theorem awk_c : addText [] ⟨#[5, 6]⟩ = [0, 2, 5, 6] := by decide
theorem awk_d : [9] ++ be 258 4 = [9, 0, 0, 1, 2] := by decide

set_option maxHeartbeats 1000000 in
theorem awake_calls (w : World) : Calls Try.prog 12 #[] w fun e w' => e = .returned (.bool true) ∧ Below w.heap.size w w' := by
  go_enter Try.func12, Try.ntmps12
  go_wp2_with fail
  refine (u32_calls _ _ [128, 0, 0, 1] 0 _ (Low.const_reads w _ (0, 0) (by decide)) (by decide) (by decide) (by constructor <;> decide)).mono ?_
  rintro e _ ⟨rfl, rfl⟩
  rw [awk_a, awk_b]
  go_wp2_with fail
  refine (addText_yes none 0 [] ⟨#[5, 6]⟩ _ (Kd.C_nil _ _) (by decide) (by decide)).mono ?_
  rintro e w2 ⟨v0, rfl, ho, hb⟩
  rw [awk_c] at ho
  obtain ⟨A1, c1, hv, hc1, hC⟩ := Kd.R_reads ho
  subst hv
  have HC := Lib.hid hC
  have HW := Lib.hid (below_then (below_alloc (Below.refl _ w) _) (below_alloc (Below.refl _ w) _).size hb)
  clear ho hb hC
  go_wp2_with fail
  refine (same_n A1 c1 4 [0, 2, 5, 6] _ _ 4 [0, 2, 5, 6] _ rfl rfl (Kd.C_alloc HC.out _) (Low.const_reads w2 _ (0, 0) (by decide)) (by decide) (by decide)).mono ?_
  rintro e w3 ⟨rfl, ⟨nd, rfl⟩⟩
  rw [decide_eq_true (rfl : ([0, 2, 5, 6] : List Int) = _)]
  replace HW := Lib.hid (pw_below_drewN (below_alloc HW.out (.cells #[.int .u8 0, .int .u8 2, .int .u8 5, .int .u8 6] 5)) nd)
  clear HC
  go_wp2_with fail
  refine (add32_calls _ _ [9] 258 _ (Low.const_reads_at ((w2.alloc (.cells #[.int .u8 0, .int .u8 2, .int .u8 5, .int .u8 6] 5)).drewN nd) _ (by simp) [9] (0, 0) (by decide)) (by decide) (by decide) (by decide)).mono ?_
  rintro e w5 ⟨v0, rfl, ho, hb⟩
  rw [awk_d] at ho
  obtain ⟨A2, c2, hv, hc2, hC⟩ := Kd.R_reads ho
  subst hv
  have HC := Lib.hid hC
  replace HW := Lib.hid (below_then (below_alloc HW.out _) (below_alloc HW.out _).size hb)
  clear ho hb hC
  go_wp2_with fail
  refine (same_n A2 c2 5 [9, 0, 0, 1, 2] _ _ 5 [9, 0, 0, 1, 2] _ rfl rfl (Kd.C_alloc HC.out _) (Low.const_reads w5 _ (0, 0) (by decide)) (by decide) (by decide)).mono ?_
  rintro e w6 ⟨rfl, ⟨nd2, rfl⟩⟩
  go_wp2
  go_ret
  exact ⟨rfl, pw_below_drewN (below_alloc HW.out _) _⟩
end Go.Proofs.Ytnipddabgedoaaa.Oct
