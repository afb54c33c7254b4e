/- The walk of the sums' awake: the two fixed answers. No conditions. -/
import Derived.Test.YtnipddabgedoaaaSumsAdler
import Derived.Lib.SlBytesConst
set_option linter.unusedVariables false
set_option linter.unusedSimpArgs false
namespace Go.Proofs.Ytnipddabgedoaaa.Sums
open Go.RowKit Go.Proofs.YtnipddabgedoaaaW.PrintWords

/-- A marked row of bytes in new memory reads as these bytes. -/
theorem const_reads (w : World) (xs : List Int) (fr : Nat × Nat) (hl : xs.length ≤ 9223372036854775807) :
    Kd.C (Kd.int .u8) (w.alloc (.cells (nums .u8 xs).toArray 5 fr)) (some ⟨w.heap.size, 0, none⟩) xs.length xs := by
  refine Kd.C_of_reads (enc := Value.int .u8) (d := 0) (h1 := fun _ => rfl) ⟨rfl, hl, fun _ => ⟨⟨w.heap.size, 0, none⟩, rfl, fun j hj => ?_⟩⟩
  rw [add_plain]
  have hh : (w.alloc (.cells (nums .u8 xs).toArray 5 fr)).heap[w.heap.size]? = some (.cells (nums .u8 xs).toArray 5 fr) := heap_alloc_new w _
  unfold World.cell?
  rw [hh]
  simp [nums, hj]

theorem crc_awake : ((more 0 [49, 50, 51, 52, 53, 54, 55, 56, 57]).toNat : Int) = 3421780262 := by decide +kernel
theorem adler_awake : adler [87, 105, 107, 105, 112, 101, 100, 105, 97] = 300286872 := by decide +kernel

set_option maxHeartbeats 1000000 in
theorem awake_calls (w : World) : Calls Try.prog 34 #[] w fun e w' => e = .returned (.bool true) ∧ Below w.heap.size w w' := by
  have kc := fun (w : World) (C : Array Value) (n c : Nat) => Lib.run_convert_bytes_const (P := Try.prog) w 23 5 C n c Try.underlying23 Try.underlying5
  go_enter Try.func34, Try.ntmps34
  go_wp2_with fail
  refine (crc_calls _ _ [49, 50, 51, 52, 53, 54, 55, 56, 57] _ (const_reads w _ (9, 10) (by decide)) (by decide) (by decide)).mono ?_
  rintro e w1 ⟨rfl, hb1⟩
  rw [show w32 (more 0 [49, 50, 51, 52, 53, 54, 55, 56, 57]) = .int .u32 3421780262 from congrArg (Value.int .u32) crc_awake]
  go_wp2_with fail
  refine (adler_calls _ _ [87, 105, 107, 105, 112, 101, 100, 105, 97] _ (const_reads w1 _ (9, 10) (by decide)) (by decide) (by decide)).mono ?_
  rintro e w2 ⟨rfl, rfl⟩
  rw [adler_awake]
  go_wp2
  go_ret
  exact ⟨rfl, below_alloc (below_then (below_alloc (Below.refl _ _) _) (by simp) hb1) _⟩
end Go.Proofs.Ytnipddabgedoaaa.Sums
