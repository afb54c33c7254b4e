/- The walk of the law OctetsNumbers: the fixed examples of the chapter come out as written. -/
import Derived.Test.YtnipddabgedoaaaOctAwake
set_option linter.unusedVariables false
set_option linter.unusedSimpArgs false
namespace Go.Proofs.Ytnipddabgedoaaa.Oct
open Go.RowKit Go.Proofs.YtnipddabgedoaaaW.PrintWords Go.Proofs.YtnipddabgedoaaaW.PrintMore

/-- The world in which bytes were just written out. -/
abbrev lit (w : World) (xs : List Int) : World := w.alloc (.cells (nums .u8 xs).toArray 5)
def Tells (w : World) (v : Value) (e : Ending) (w' : World) : Prop := e = .returned v ∧ Below w.heap.size w w'
section
variable (w : World) (xs : List Int) (c : Nat) (i : Int) (hb : ∀ x ∈ xs, 0 ≤ x ∧ x ≤ 255) (hl : xs.length ≤ 1000) (hi : I64 i)
include hb hl hi
theorem u8_lit : Calls Try.prog 15 #[.slice (some ⟨w.heap.size, 0, none⟩) xs.length c, .int .i64 i] (lit w xs) (Tells w (.tuple #[.int .u8 (nv xs i 1), .bool (nok xs i 1)])) :=
  (u8_calls _ _ xs i _ (Low.const_reads w xs (0, 0) (by omega)) hb (by omega) hi).mono fun _ _ h => ⟨h.1, h.2 ▸ below_alloc (Below.refl _ w) _⟩
theorem u16_lit : Calls Try.prog 13 #[.slice (some ⟨w.heap.size, 0, none⟩) xs.length c, .int .i64 i] (lit w xs) (Tells w (.tuple #[.int .u16 (nv xs i 2), .bool (nok xs i 2)])) :=
  (u16_calls _ _ xs i _ (Low.const_reads w xs (0, 0) (by omega)) hb (by omega) hi).mono fun _ _ h => ⟨h.1, h.2 ▸ below_alloc (Below.refl _ w) _⟩
theorem u32_lit : Calls Try.prog 16 #[.slice (some ⟨w.heap.size, 0, none⟩) xs.length c, .int .i64 i] (lit w xs) (Tells w (.tuple #[.int .u32 (nv xs i 4), .bool (nok xs i 4)])) :=
  (u32_calls _ _ xs i _ (Low.const_reads w xs (0, 0) (by omega)) hb (by omega) hi).mono fun _ _ h => ⟨h.1, h.2 ▸ below_alloc (Below.refl _ w) _⟩
theorem u64_lit : Calls Try.prog 14 #[.slice (some ⟨w.heap.size, 0, none⟩) xs.length c, .int .i64 i] (lit w xs) (Tells w (.tuple #[.int .u64 (nv xs i 8), .bool (nok xs i 8)])) :=
  (u64_calls _ _ xs i _ (Low.const_reads w xs (0, 0) (by omega)) hb (by omega) hi).mono fun _ _ h => ⟨h.1, h.2 ▸ below_alloc (Below.refl _ w) _⟩
theorem text_lit (hc : xs.length ≤ c) : Calls Try.prog 17 #[.slice (some ⟨w.heap.size, 0, none⟩) xs.length c, .int .i64 i] (lit w xs) (Tells w (.tuple #[.string (strOfNums (txt xs i)), .int .i64 (tend xs i), .bool (tok xs i)])) :=
  (text_calls _ _ xs i _ (Low.const_reads w xs (0, 0) (by omega)) hc hb (by omega) hi).mono fun _ _ h => ⟨h.1, h.2 ▸ below_alloc (Below.refl _ w) _⟩
end
theorem u64_made (w : World) (c : Nat) : Calls Try.prog 14 #[.slice (some ⟨w.heap.size, 0, none⟩) 7 c, .int .i64 0] (w.alloc (.cells (madeCells #[.int .u8 0] 7) 5)) (Tells w (.tuple #[.int .u64 0, .bool false])) := by
  have h := (Kd.R_reads' (made_row w 7 7 (Nat.le_refl _) (by decide))).2.2
  exact (u64_calls _ _ (List.replicate 7 0) 0 _ h (by decide) (by decide) (by constructor <;> decide)).mono fun _ _ h => ⟨h.1, h.2 ▸ below_alloc (Below.refl _ w) _⟩

theorem na : nok [1, 2] 0 2 = true ∧ nv [1, 2] 0 2 = 258 := by decide
theorem nb : nok [128, 0, 0, 0, 0, 0, 0, 1] 0 8 = true ∧ nv [128, 0, 0, 0, 0, 0, 0, 1] 0 8 = 9223372036854775809 := by decide
theorem nc : nok [5] 0 1 = true ∧ nv [5] 0 1 = 5 := by decide
theorem nd (i : Int) (h : i ≠ 0) : nok [1, 2] i 2 = false ∧ nv [1, 2] i 2 = 0 ∧ nok [1, 2] i 4 = false ∧ nv [1, 2] i 4 = 0 ∧ tok [1, 2] i = false ∧ txt [1, 2] i = [] ∧ tend [1, 2] i = 0 := by
  have a : nok [1, 2] i 2 = false := nok_false (by simp; omega)
  have b : nok [1, 2] i 4 = false := nok_false (by simp; omega)
  have c : tok [1, 2] i = false := by unfold tok; rw [a]; rfl
  exact ⟨a, by unfold nv; rw [a]; rfl, b, by unfold nv; rw [b]; rfl, c, by unfold txt; rw [c]; rfl, by unfold tend; rw [c]; rfl⟩
theorem ne : tok [0, 2, 5, 6] 0 = true ∧ txt [0, 2, 5, 6] 0 = [5, 6] ∧ tend [0, 2, 5, 6] 0 = 4 := by decide
theorem nf : tok [0, 2, 5, 6] 1 = false ∧ txt [0, 2, 5, 6] 1 = [] ∧ tend [0, 2, 5, 6] 1 = 0 := by decide
theorem ng : tok [0, 3, 5, 6] 0 = false ∧ txt [0, 3, 5, 6] 0 = [] ∧ tend [0, 3, 5, 6] 0 = 0 := by decide

theorem made_at (u : World) (n : Nat) (hn : n ≤ 100000) : (Instr.makeSlice 23 (.int .i64 n) (.int .i64 n)).run Try.prog u = .ok (.slice (some ⟨u.heap.size, 0, none⟩) n n) (u.alloc (.cells (madeCells #[.int .u8 0] n) 5)) := by
  obtain ⟨i0, hi, hz0, hz1, hz2⟩ := info_parts Low.info8
  have hmk := run_make (P := Try.prog) u 23 5 i0 (.int .u8 0) Try.underlying23 hi hz0 .i64 .i64 n n (by omega) (by omega) (by rw [hz2]; omega) (by omega)
  rw [hz1, Int.toNat_natCast, Nat.mul_one] at hmk
  exact hmk
theorem made_text (n : Nat) (hn : n ≤ 100000) : ∃ s : ByteArray, s.size = n ∧ ∀ u : World, (convert 23 9 (.slice (some ⟨u.heap.size, 0, none⟩) n n)).run Try.prog (u.alloc (.cells (madeCells #[.int .u8 0] n) 5)) = .ok (.string s) (u.alloc (.cells (madeCells #[.int .u8 0] n) 5)) := by
  refine ⟨strOfNums (List.replicate n 0), by rw [strOfNums_size, List.length_replicate], fun u => ?_⟩
  have h := (Kd.R_reads' (made_row u n n (Nat.le_refl _) (by unfold maxLen; omega))).2.2
  rw [List.length_replicate] at h
  exact Kd.C_string (P := Try.prog) (c := n) Try.underlying23 Try.underlying5 Try.underlying9 h
theorem row_len {w' : World} {b : Nat} {v0 : Value} {s : ByteArray} (h : Kd.R (Kd.int .u8) 5 w' b (fun _ => True) v0 (addText [] s)) : ∃ A c, v0 = .slice A (s.size + 2) c := by
  obtain ⟨A, c, e⟩ := Kd.R_slice h
  refine ⟨A, c, ?_⟩
  have hn : (addText [] s).length = s.size + 2 := by unfold addText; rw [List.length_append, List.length_append, be_length, bytesOf_length, List.length_nil]; omega
  rw [e, hn]

theorem s0 : strOfNums [] = ⟨#[]⟩ := by decide
theorem s56 : strOfNums [5, 6] = ⟨#[5, 6]⟩ := by decide

/-- The five places. -/
def five : List Int := [1, -1, 2, 9223372036854775807, -9223372036854775808]
theorem five_reads (w : World) : Kd.C (Kd.int .i64) (w.alloc (.cells #[.int .i64 1, .int .i64 (-1), .int .i64 2, .int .i64 9223372036854775807, .int .i64 (-9223372036854775808)] 3 (0, 0))) (some ⟨w.heap.size, 0, none⟩) 5 five := by
  refine Kd.C_of_reads (enc := Value.int .i64) (d := 0) (h1 := fun _ => rfl) ⟨rfl, by decide, fun _ => ⟨⟨w.heap.size, 0, none⟩, rfl, fun j hj => ?_⟩⟩
  rw [add_plain]
  have hh := heap_alloc_new w (.cells #[.int .i64 1, .int .i64 (-1), .int .i64 2, .int .i64 9223372036854775807, .int .i64 (-9223372036854775808)] 3 (0, 0))
  unfold World.cell?
  rw [hh]
  match j, hj with
  | 0, _ => rfl
  | 1, _ => rfl
  | 2, _ => rfl
  | 3, _ => rfl
  | 4, _ => rfl
theorem five_at {w : World} {b : Nat} (h : Kd.C (Kd.int .i64) w (some ⟨b, 0, none⟩) 5 five) (j : Nat) (hj : j < 5) : ∃ i : Int, w.cell? ⟨b, j, none⟩ = some (.int .i64 i) ∧ I64 i ∧ i ≠ 0 := by
  obtain ⟨a, e, hx⟩ := Kd.at_int h (j : Int) (by omega) (by omega)
  cases e
  rw [Int.toNat_natCast, add_plain] at hx
  refine ⟨rd five j, hx, ?_⟩
  match j, hj with
  | 0, _ => exact ⟨⟨by decide, by decide⟩, by decide⟩
  | 1, _ => exact ⟨⟨by decide, by decide⟩, by decide⟩
  | 2, _ => exact ⟨⟨by decide, by decide⟩, by decide⟩
  | 3, _ => exact ⟨⟨by decide, by decide⟩, by decide⟩
  | 4, _ => exact ⟨⟨by decide, by decide⟩, by decide⟩

set_option maxHeartbeats 8000000 in
set_option maxRecDepth 100000 in
theorem numbers_law (w : World) : Calls Try.prog 4 #[] w fun e w' => e = .returned (.bool true) ∧ Below w.heap.size w w' := by
  obtain ⟨SA, hSA, hcA⟩ := made_text 65536 (by omega)
  obtain ⟨SB, hSB, hcB⟩ := made_text 65535 (by omega)
  have hmA : ∀ u : World, (Instr.makeSlice 23 (.int .i64 65536) (.int .i64 65536)).run Try.prog u = .ok (.slice (some ⟨u.heap.size, 0, none⟩) 65536 65536) (u.alloc (.cells (madeCells #[.int .u8 0] 65536) 5)) := fun u => made_at u 65536 (by omega)
  have hmB : ∀ u : World, (Instr.makeSlice 23 (.int .i64 65535) (.int .i64 65535)).run Try.prog u = .ok (.slice (some ⟨u.heap.size, 0, none⟩) 65535 65535) (u.alloc (.cells (madeCells #[.int .u8 0] 65535) 5)) := fun u => made_at u 65535 (by omega)
  have HSA := Lib.hid hSA
  have HSB := Lib.hid hSB
  clear hSA hSB
  obtain ⟨i0, hi, hz0, hz1, hz2⟩ := info_parts Low.info8
  have hm7 : ∀ u : World, (Instr.makeSlice 23 (.int .i64 7) (.int .i64 7)).run Try.prog u = .ok (.slice (some ⟨u.heap.size, 0, none⟩) 7 7) (u.alloc (.cells (madeCells #[.int .u8 0] 7) 5)) := fun u => by
    have hmk := run_make (P := Try.prog) u 23 5 i0 (.int .u8 0) Try.underlying23 hi hz0 .i64 .i64 7 7 (by omega) (by omega) (by rw [hz2]; omega) (by omega)
    rw [hz1] at hmk
    exact hmk
  go_enter Try.func4, Try.ntmps4
  go_wp2_with fail
  refine (u16_lit w [1, 2] _ 0 (by decide) (by decide) (by constructor <;> decide)).mono ?_
  rintro e w1 ⟨rfl, hb⟩
  rw [na.1, na.2]
  have HW := Lib.hid hb
  clear hb
  go_wp2_with fail
  refine (u64_made w1 _).mono ?_
  rintro e w2 ⟨rfl, hb⟩
  replace HW := Lib.hid (below_then HW.out HW.out.size hb)
  clear hb
  go_wp2_with fail
  refine (u64_lit w2 [128, 0, 0, 0, 0, 0, 0, 1] _ 0 (by decide) (by decide) (by constructor <;> decide)).mono ?_
  rintro e w3 ⟨rfl, hb⟩
  rw [nb.1, nb.2]
  replace HW := Lib.hid (below_then HW.out HW.out.size hb)
  clear hb
  go_wp2_with fail
  refine (u8_lit w3 [5] _ 0 (by decide) (by decide) (by constructor <;> decide)).mono ?_
  rintro e w4 ⟨rfl, hb⟩
  rw [nc.1, nc.2]
  replace HW := Lib.hid (below_then HW.out HW.out.size hb)
  clear hb
  go_wp2_with fail
  have HF0 := Lib.hid (five_reads w4)
  obtain ⟨W0, hW0⟩ : ∃ W0, W0 = w4.alloc (.cells #[.int .i64 1, .int .i64 (-1), .int .i64 2, .int .i64 9223372036854775807, .int .i64 (-9223372036854775808)] 3 (0, 0)) := ⟨_, rfl⟩
  have HB0 : Hid (Below w.heap.size w W0) := Lib.hid (by rw [hW0]; exact below_alloc HW.out _)
  rw [← hW0] at HF0 ⊢
  obtain ⟨b4, hb4⟩ : ∃ b4, b4 = w4.heap.size := ⟨_, rfl⟩
  rw [← hb4] at HF0 ⊢
  clear hW0 hb4 HW
  go_loopw [78] (fun i wr => ∃ j : Nat, j ≤ 5 ∧ i = .int .i64 j ∧ Hid (Kd.C (Kd.int .i64) wr (some ⟨b4, 0, none⟩) 5 five) ∧ Hid (Below w.heap.size w wr)) (fun i _ => 5 - (intOf i).toNat)
  case atStart => exact ⟨0, Nat.zero_le _, rfl, HF0, HB0⟩
  case round =>
    obtain ⟨j, hj, rfl, HF1, HB1⟩ := hrel
    by_cases hlt : j < 5
    · obtain ⟨i, hx, hi, hne⟩ := five_at HF1.out j hlt
      have HI := Lib.hid hi
      have HN := Lib.hid (nd i hne)
      clear hi hne
      go_wp2_with fail
      refine (u16_lit wr [1, 2] _ i (by decide) (by decide) HI.out).mono ?_
      rintro e w5 ⟨rfl, hb⟩
      rw [HN.out.1, HN.out.2.1]
      replace HF1 := Lib.hid (Kd.C_below HF1.out hb)
      replace HB1 := Lib.hid (below_then HB1.out HB1.out.size hb)
      clear hb
      go_wp2_with fail
      refine (u32_lit w5 [1, 2] _ i (by decide) (by decide) HI.out).mono ?_
      rintro e w6 ⟨rfl, hb⟩
      rw [HN.out.2.2.1, HN.out.2.2.2.1]
      replace HF1 := Lib.hid (Kd.C_below HF1.out hb)
      replace HB1 := Lib.hid (below_then HB1.out HB1.out.size hb)
      clear hb
      go_wp2_with fail
      refine (text_lit w6 [1, 2] _ i (by decide) (by decide) HI.out (by decide)).mono ?_
      rintro e w7 ⟨rfl, hb⟩
      rw [HN.out.2.2.2.2.1, HN.out.2.2.2.2.2.1, HN.out.2.2.2.2.2.2, s0]
      replace HF1 := Lib.hid (Kd.C_below HF1.out hb)
      replace HB1 := Lib.hid (below_then HB1.out HB1.out.size hb)
      clear hb
      go_wp2_with fail
      go_roundw
      case rel => exact ⟨j + 1, by omega, by go_num, HF1.out, HB1.out⟩
      case measure => simp [intOf]; omega
    · obtain rfl : j = 5 := by omega
      go_wp2_with fail
      refine (text_lit wr [0, 2, 5, 6] _ 0 (by decide) (by decide) (by constructor <;> decide) (by decide)).mono ?_
      rintro e w5 ⟨rfl, hb⟩
      rw [ne.1, ne.2.1, ne.2.2, s56]
      replace HB1 := Lib.hid (below_then HB1.out HB1.out.size hb)
      clear hb
      go_wp2_with fail
      refine (text_lit w5 [0, 2, 5, 6] _ 1 (by decide) (by decide) (by constructor <;> decide) (by decide)).mono ?_
      rintro e w6 ⟨rfl, hb⟩
      rw [nf.1, nf.2.1, nf.2.2, s0]
      replace HB1 := Lib.hid (below_then HB1.out HB1.out.size hb)
      clear hb
      go_wp2_with fail
      refine (text_lit w6 [0, 3, 5, 6] _ 0 (by decide) (by decide) (by constructor <;> decide) (by decide)).mono ?_
      rintro e w7 ⟨rfl, hb⟩
      rw [ng.1, ng.2.1, ng.2.2, s0]
      replace HB1 := Lib.hid (below_then HB1.out HB1.out.size hb)
      clear hb
      go_wp2_with fail
      refine (addText_no none 0 [] SA _ (by rw [HSA.out]; omega)).mono ?_
      rintro e w8 ⟨rfl, rfl⟩
      replace HB1 := Lib.hid (below_alloc HB1.out (.cells (madeCells #[.int .u8 0] 65536) 5))
      obtain ⟨W8, hW8⟩ : ∃ W8, W8 = w7.alloc (.cells (madeCells #[.int .u8 0] 65536) 5) := ⟨_, rfl⟩
      rw [← hW8] at HB1 ⊢
      clear hW8
      go_wp2_with fail
      refine (addText_yes none 0 [] SB _ (Kd.C_nil _ _) (by decide) (by rw [HSB.out]; omega)).mono ?_
      rintro e w9 ⟨v9, rfl, ho, hb⟩
      obtain ⟨A9, c9, rfl⟩ := row_len ho
      rw [HSB.out]
      replace HB1 := Lib.hid (below_then (below_alloc HB1.out _) (below_alloc HB1.out _).size hb)
      clear hb ho
      go_wp2_with fail
      refine (awake_calls _).mono ?_
      rintro e w10 ⟨rfl, hb⟩
      have HZ := Lib.hid (below_then HB1.out HB1.out.size hb)
      clear hb
      go_wp2
      go_ret
      exact ⟨rfl, HZ.out⟩
end Go.Proofs.Ytnipddabgedoaaa.Oct
