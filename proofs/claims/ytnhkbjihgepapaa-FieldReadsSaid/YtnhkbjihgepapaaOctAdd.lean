/- The walk of octets.add: a copy with so many bytes behind it, the highest first. -/
import Derived.Test.YtnhkbjihgepapaaProg
import Derived.WalkKit
import Derived.WalkSpells
import Derived.OneCell
import Derived.Lib.Hide
import Derived.Laws.CopyOwn
import Derived.Test.YtnhkbjihgepapaaWWords
import Derived.Test.YtnhkbjihgepapaaWMore
set_option linter.unusedVariables false
set_option linter.unusedSimpArgs false
namespace Go.Proofs.Ytnhkbjihgepapaa.Oct
open Go.RowKit Go.Proofs.YtnhkbjihgepapaaW.PrintWords Go.Proofs.YtnhkbjihgepapaaW.PrintMore

/-- The bytes of a number, the highest first. -/
def be (v : Int) (n : Nat) : List Int := (List.range n).map fun i => v / 2 ^ (8 * (n - 1 - i)) % 256

theorem be_length (v : Int) (n : Nat) : (be v n).length = n := by simp [be]
theorem be_snoc (v : Int) (n j : Nat) (h : j < n) : (be v n).take (j + 1) = (be v n).take j ++ [v / 2 ^ (8 * (n - 1 - j)) % 256] := by
  rw [List.take_succ_eq_append_getElem (by rw [be_length]; exact h)]
  simp [be]

theorem info8 : (Try.prog.info? 5).map (fun i => (i.zero, i.size, i.bytes)) = some (some (.int .u8 0), 1, 1) := by kernel_rfl

/-- A row that was just made: its first cells are noughts. -/
theorem made_row (w : World) (m cap : Nat) (hm : m ≤ cap) (hc : cap ≤ maxLen) :
    Kd.R (Kd.int .u8) 5 (w.alloc (.cells (madeCells #[.int .u8 0] cap) 5)) w.heap.size (fun _ => True) (.slice (some ⟨w.heap.size, 0, none⟩) m cap) (List.replicate m (0 : Int)) := by
  refine Kd.R_of_own ?_ (fun _ _ => trivial)
  refine ⟨by simp [encs], .inr ⟨w.heap.size, cap, madeCells #[.int .u8 0] cap, by rw [List.length_replicate], Nat.le_refl _, heap_alloc_new w _, by rw [List.length_replicate]; exact hm, hc, by rw [size_madeCells, Nat.mul_one], ?_⟩⟩
  rw [toList_madeCells_one, List.length_replicate, Nat.mul_one, List.take_replicate, Nat.min_eq_left hm]
  simp [encs]

set_option maxHeartbeats 1000000 in
theorem add_calls (v : Int) (n : Nat) (A : Option Addr) (c : Nat) (l : List Int) (w : World) (hv : 0 ≤ v) (hv1 : v < 18446744073709551616) (hn : n ≤ 8) (hr : Kd.C (Kd.int .u8) w A l.length l) (hl : l.length ≤ 140737488355320) :
    Calls Try.prog 55 #[.slice A l.length c, .int .u64 v, .int .i64 n] w fun e w' => ∃ v0 : Value, e = .returned v0 ∧ Kd.R (Kd.int .u8) 5 w' w.heap.size (fun _ => True) v0 (l ++ be v n) ∧ Below w.heap.size w w' := by
  have HR := Lib.hid hr
  clear hr
  obtain ⟨i0, hi, hz0, hz1, hz2⟩ := info_parts info8
  have hmk := run_make (P := Try.prog) w 22 5 i0 (.int .u8 0) Try.underlying22 hi hz0 .i64 .i64 l.length (l.length + n) (by omega) (by omega) (by rw [hz2]; omega) (by omega)
  have HM := Lib.hid (made_row w l.length (l.length + n) (by omega) (by unfold maxLen; omega))
  have HV : Hid (v < 18446744073709551616) := hv1
  clear hv1
  go_enter Try.func55, Try.ntmps55
  go_wp2_with ((with_reducible refine gate_builtin (b := .copy) (xs := #[.tmp 16, .tmp 17]) rfl ?_); (refine Kd.R_copy (w0 := w) (0 : Int) w.heap.size rfl (.tmp 16) (.tmp 17) 22 22 5 rfl Try.underlying22 (by kernel_rfl) (.slice (some ⟨w.heap.size, 0, none⟩) l.length (l.length + n)) (List.replicate l.length (0 : Int)) l A l.length c (fun _ => True) rfl rfl HM.out (Kd.C_alloc HR.out _) ((Below.refl _ _).alloc (Nat.le_refl _) _) (by simp) ?_); intro w1 ho hb _; rw [List.length_replicate, Nat.min_self, List.take_length, List.drop_replicate, Nat.sub_self, List.replicate_zero, List.append_nil] at ho; have HO := Lib.hid ho; have HB := Lib.hid hb; clear ho hb)
  go_loopw [7, 20] (fun u i wr => ∃ j : Nat, j ≤ n ∧ i = .int .i64 j ∧ Hid (Kd.R (Kd.int .u8) 5 wr w.heap.size (fun _ => True) u (l ++ (be v n).take j)) ∧ Hid (Below w.heap.size w wr)) (fun _ i _ => n - (intOf i).toNat)
  case atStart => exact ⟨0, Nat.zero_le _, rfl, by rw [List.take_zero, List.append_nil]; exact HO.out, HB.out⟩
  case round =>
    obtain ⟨j, hj, rfl, HR1, HB1⟩ := hrel
    by_cases hlt : j < n
    · have HS := Lib.hid (be_snoc v n j hlt)
      have hlen := Lib.hid (show (l ++ (be v n).take j).length = l.length + j by rw [List.length_append, List.length_take, be_length]; omega)
      go_wp2_with ((with_reducible refine gate_builtin (b := .append) (xs := #[.tmp 23, .tmp 32]) rfl ?_); at_builtin; (refine Kd.R_append (Kd.int .u8) (w0 := w) w.heap.size rfl (.tmp 23) (.tmp 32) 22 5 (.int .u8 0) 1 rfl Try.underlying22 info8 rfl (by decide) (by omega) _ (l ++ (be v n).take j) _ _ (fun _ => True) (fun _ => False) rfl rfl rfl (fun _ hk => hk.elim) (fun _ _ => trivial) HR1.out HB1.out HB1.out.size (by rw [hlen.out]; omega) ?_); intro v1 w2 ho hb _ _; have HO2 := Lib.hid ho; have HB2 := Lib.hid hb; clear ho hb)
      go_roundw
      case rel => exact ⟨j + 1, by omega, by go_num, by rw [HS.out, ← List.append_assoc]; exact HO2.out, HB2.out⟩
      case measure => simp [intOf]; omega
    · obtain rfl : j = n := by omega
      go_wp2
      go_ret
      refine ⟨_, rfl, ?_, HB1.out⟩
      have := HR1.out
      rwa [List.take_of_length_le (by rw [be_length]; omega)] at this

/-- What the callers hand over. -/
def okAdd (l : List Int) (v n : Int) : Bool := decide (0 ≤ v) && decide (v < 18446744073709551616) && decide (0 ≤ n) && decide (n ≤ 8) && decide (l.length ≤ 140737488355320)
theorem okAdd_mk {l : List Int} {v n : Int} (h0 : 0 ≤ v) (h1 : v < 18446744073709551616) (h2 : 0 ≤ n) (h3 : n ≤ 8) (h4 : l.length ≤ 140737488355320) : okAdd l v n = true := by
  simp only [okAdd, Bool.and_eq_true, decide_eq_true_eq]
  exact ⟨⟨⟨⟨h0, h1⟩, h2⟩, h3⟩, h4⟩
theorem add_ok (l : List Int) (v n : Int) (A : Option Addr) (c : Nat) (w : World) (hr : Kd.C (Kd.int .u8) w A l.length l) (h : okAdd l v n = true) :
    Calls Try.prog 55 #[.slice A l.length c, .int .u64 v, .int .i64 n] w fun e w' => ∃ v0 : Value, e = .returned v0 ∧ Kd.R (Kd.int .u8) 5 w' w.heap.size (fun _ => True) v0 (l ++ be v n.toNat) ∧ Below w.heap.size w w' := by
  simp only [okAdd, Bool.and_eq_true, decide_eq_true_eq] at h
  obtain ⟨⟨⟨⟨h0, h1⟩, h2⟩, h3⟩, h4⟩ := h
  obtain ⟨m, rfl⟩ := Int.eq_ofNat_of_zero_le h2
  exact add_calls v m A c l w h0 h1 (by omega) hr h4
end Go.Proofs.Ytnhkbjihgepapaa.Oct
