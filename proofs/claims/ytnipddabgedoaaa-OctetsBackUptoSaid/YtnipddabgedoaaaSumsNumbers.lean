/- The walk of the law SumsNumbers: the fixed examples of the chapter come out as written. -/
import Derived.Test.YtnipddabgedoaaaSumsAwake
import Derived.Test.YtnipddabgedoaaaLow
import Derived.Test.YtnipddabgedoaaaOctAdd
set_option linter.unusedVariables false
set_option linter.unusedSimpArgs false
namespace Go.Proofs.Ytnipddabgedoaaa.Sums
open Go.RowKit Go.Proofs.YtnipddabgedoaaaW.PrintWords Go.Proofs.YtnipddabgedoaaaW.PrintLast Go.Proofs.YtnipddabgedoaaaW.PrintMore

/-- So many 255s, then noughts. -/
def part (j : Nat) : List Int := List.replicate j 255 ++ List.replicate (700 - j) 0
theorem part_set (j : Nat) (h : j < 700) : (part j).set j 255 = part (j + 1) := by
  unfold part
  rw [List.set_append_right _ _ (by simp), List.length_replicate, Nat.sub_self, show 700 - j = (700 - (j + 1)) + 1 by omega, List.replicate_succ, List.set_cons_zero, List.replicate_succ']
  simp
theorem part_length (j : Nat) (h : j ≤ 700) : (part j).length = 700 := by simp [part]; omega

/-- Seven hundred bytes. -/
def whole : List Int := part 700
theorem whole_length : whole.length = 700 := part_length 700 (Nat.le_refl _)
theorem whole_bytes : ∀ x ∈ whole, 0 ≤ x ∧ x ≤ 255 := by
  intro x hx
  rcases List.mem_append.1 hx with h | h
  · rw [(List.mem_replicate.1 h).2]; omega
  · rw [(List.mem_replicate.1 h).2]; omega

set_option maxHeartbeats 1000000 in
set_option maxRecDepth 100000 in
theorem full_calls (w : World) : Calls Try.prog 32 #[] w fun e w' => ∃ A c, e = .returned (.slice A 700 c) ∧ Kd.C (Kd.int .u8) w' A 700 whole ∧ Below w.heap.size w w' := by
  obtain ⟨i0, hi, hz0, hz1, hz2⟩ := info_parts Low.info8
  have hmk := run_make (P := Try.prog) w 23 5 i0 (.int .u8 0) Try.underlying23 hi hz0 .i64 .i64 700 700 (by omega) (by omega) (by rw [hz2]; omega) (by omega)
  rw [hz1] at hmk
  have hm2 : (Instr.makeSlice 23 (.int .i64 700) (.int .i64 700)).run Try.prog w = .ok (.slice (some ⟨w.heap.size, 0, none⟩) 700 700) (w.alloc (.cells (madeCells #[.int .u8 0] 700) 5)) := hmk
  have hr0 := Oct.made_row w 700 700 (Nat.le_refl _) (by decide)
  obtain ⟨W0, hW0⟩ : ∃ W0, W0 = w.alloc (.cells (madeCells #[.int .u8 0] 700) 5) := ⟨_, rfl⟩
  have hb0 : Below w.heap.size w W0 := by rw [hW0]; exact below_alloc (Below.refl _ _) _
  rw [← hW0] at hm2 hr0
  have HR0 := Lib.hid hr0
  have HB0 := Lib.hid hb0
  clear hmk hr0 hW0 hb0
  go_enter Try.func32, Try.ntmps32
  go_wp2
  go_loopw [2] (fun i wr => ∃ j : Nat, j ≤ 700 ∧ i = .int .i64 j ∧ Hid (Kd.R (Kd.int .u8) 5 wr w.heap.size (fun _ => True) (.slice (some ⟨w.heap.size, 0, none⟩) 700 700) (part j)) ∧ Hid (Below w.heap.size w wr)) (fun i _ => 700 - (intOf i).toNat)
  case atStart => exact ⟨0, Nat.zero_le _, rfl, HR0.out, HB0.out⟩
  case round =>
    obtain ⟨j, hj, rfl, HR1, HB1⟩ := hrel
    by_cases hlt : j < 700
    · obtain ⟨hc, hf⟩ := Kd.R_celln (0 : Int) HR1.out j (by omega) (by omega)
      have HP := Lib.hid (Kd.R_putn HR1.out j 255)
      rw [Int.toNat_natCast] at hc hf HP
      go_wp2
      go_roundw
      case rel => exact ⟨j + 1, by omega, by go_num, by rw [← part_set j hlt]; exact HP.out, HB1.out.setCell (p := ⟨w.heap.size, j, none⟩) (Nat.le_refl _) _⟩
      case measure => simp [intOf]; omega
    · obtain rfl : j = 700 := by omega
      go_wp2
      go_ret
      refine ⟨_, _, rfl, ?_, HB1.out⟩
      have := (Kd.R_reads' HR1.out).2.2
      rwa [part_length 700 (Nat.le_refl _)] at this

theorem adler_n (A : Option Addr) (c n : Nat) (l : List Int) (w : World) (hn : l.length = n) (hr : Kd.C (Kd.int .u8) w A n l) (hb : ∀ x ∈ l, 0 ≤ x ∧ x ≤ 255) (hl : n ≤ 140737488351232) :
    Calls Try.prog 31 #[.slice A n c] w fun e w' => e = .returned (.int .u32 (adler l)) ∧ w = w' := by
  subst hn; exact adler_calls A c l w hr hb hl
theorem refAdler_n (A : Option Addr) (c n : Nat) (l : List Int) (w : World) (hn : l.length = n) (hr : Kd.C (Kd.int .u8) w A n l) (hb : ∀ x ∈ l, 0 ≤ x ∧ x ≤ 255) (hl : n ≤ 140737488351232) :
    Calls Try.prog 33 #[.slice A n c] w fun e w' => e = .returned (.int .u32 (adler l)) ∧ w = w' := by
  subst hn; exact refAdler_calls A c l w hr hb hl

theorem num_a : w32 (more 0#32 []) = .int .u32 0 := congrArg (Value.int .u32) (by decide +kernel)
theorem num_b : w32 (more (more 0#32 [49, 50, 51, 52]) [53, 54, 55, 56, 57]) = .int .u32 3421780262 := congrArg (Value.int .u32) (by decide +kernel)
theorem num_c : adler [] = 1 := by decide +kernel
theorem num_d : adler [1] = 131074 := by decide +kernel
theorem num_e : w32 (more 0#32 [0]) = .int .u32 3523407757 := congrArg (Value.int .u32) (by decide +kernel)

set_option maxHeartbeats 2000000 in
theorem numbers_law (w : World) : Calls Try.prog 7 #[] w fun e w' => e = .returned (.bool true) ∧ Below w.heap.size w w' := by
  have kc := fun (w : World) (C : Array Value) (n c : Nat) => Lib.run_convert_bytes_const (P := Try.prog) w 23 5 C n c Try.underlying23 Try.underlying5
  go_enter Try.func7, Try.ntmps7
  go_wp2_with fail
  refine (crc_calls none 0 [] w (Kd.C_nil _ _) (by decide) (by decide)).mono ?_
  rintro e w1 ⟨rfl, hb⟩
  rw [show more 0 [] = more 0#32 [] from rfl, num_a]
  have HW := Lib.hid hb
  clear hb
  go_wp2_with fail
  refine (crc_calls _ _ [49, 50, 51, 52] _ (Low.const_reads w1 _ (4, 5) (by decide)) (by decide) (by decide)).mono ?_
  rintro e w2 ⟨rfl, hb⟩
  replace HW := Lib.hid (below_then (below_alloc HW.out _) (below_alloc HW.out _).size hb)
  clear hb
  go_wp2_with fail
  refine (more_calls _ _ _ [53, 54, 55, 56, 57] _ (Low.const_reads w2 _ (5, 6) (by decide)) (by decide) (by decide)).mono ?_
  rintro e w3 ⟨rfl, hb⟩
  replace HW := Lib.hid (below_then (below_alloc HW.out _) (below_alloc HW.out _).size hb)
  clear hb
  rw [num_b]
  go_wp2_with fail
  refine (adler_calls none 0 [] w3 (Kd.C_nil _ _) (by decide) (by decide)).mono ?_
  rintro e _ ⟨rfl, rfl⟩
  rw [num_c]
  go_wp2_with fail
  refine (full_calls w3).mono ?_
  rintro e w4 ⟨A1, c1, rfl, hC, hb⟩
  replace HW := Lib.hid (below_then HW.out HW.out.size hb)
  have HC := Lib.hid hC
  clear hb hC
  go_wp2_with fail
  refine (adler_n A1 c1 700 whole w4 whole_length HC.out whole_bytes (by decide)).mono ?_
  rintro e _ ⟨rfl, rfl⟩
  go_wp2_with fail
  refine (full_calls w4).mono ?_
  rintro e w5 ⟨A2, c2, rfl, hC, hb⟩
  replace HW := Lib.hid (below_then HW.out HW.out.size hb)
  have HC2 := Lib.hid hC
  clear hb hC
  go_wp2_with fail
  refine (refAdler_n A2 c2 700 whole w5 whole_length HC2.out whole_bytes (by decide)).mono ?_
  rintro e _ ⟨rfl, rfl⟩
  go_wp2_with fail
  refine (adler_calls _ _ [1] _ (Low.const_reads w5 _ (0, 0) (by decide)) (by decide) (by decide)).mono ?_
  rintro e _ ⟨rfl, rfl⟩
  rw [num_d]
  go_wp2_with fail
  refine (crc_calls _ _ [0] _ (Low.const_reads_at (w5.alloc (.cells #[.int .u8 1] 5)) _ (by simp) [0] (0, 0) (by decide)) (by decide) (by decide)).mono ?_
  rintro e w6 ⟨rfl, hb⟩
  replace HW := Lib.hid (below_then (below_alloc (below_alloc HW.out _) _) (below_alloc (below_alloc HW.out _) _).size hb)
  clear hb
  rw [show more 0 [0] = more 0#32 [0] from rfl, num_e]
  go_wp2_with fail
  refine (awake_calls _).mono ?_
  rintro e w7 ⟨rfl, hb⟩
  have HZ := Lib.hid (below_then HW.out HW.out.size hb)
  clear hb
  go_wp2
  go_ret
  exact ⟨rfl, HZ.out⟩
end Go.Proofs.Ytnipddabgedoaaa.Sums
