/- The walk of octets.add: a copy with so many bytes behind it, the highest first. -/
import Derived.Test.YtfggcdpipolahaaProg
import Derived.WalkKit
import Derived.WalkSpells
import Derived.OneCell
import Derived.Lib.Hide
import Derived.Laws.CopyOwn
import Derived.Test.YtfggcdpipolahaaWWords
import Derived.Test.YtfggcdpipolahaaWMore
set_option linter.unusedVariables false
set_option linter.unusedSimpArgs false
namespace Go.Proofs.Ytfggcdpipolahaa.Oct
open Go.RowKit Go.Proofs.YtfggcdpipolahaaW.PrintWords Go.Proofs.YtfggcdpipolahaaW.PrintMore

/-- The bytes of a number, the highest first. -/
def be (v : Int) (n : Nat) : List Int := (List.range n).map fun i => v / 2 ^ (8 * (n - 1 - i)) % 256

theorem be_length (v : Int) (n : Nat) : (be v n).length = n := by simp [be]
theorem be_snoc (v : Int) (n j : Nat) (h : j < n) : (be v n).take (j + 1) = (be v n).take j ++ [v / 2 ^ (8 * (n - 1 - j)) % 256] := by
  rw [List.take_succ_eq_append_getElem (by rw [be_length]; exact h)]
  simp [be]

theorem info8 : (Try.prog.info? 5).map (fun i => (i.zero, i.size, i.bytes)) = some (some (.int .u8 0), 1, 1) := by kernel_rfl

/-- A row that was just made: its first cells are noughts. -/
theorem made_row (w : World) (m cap : Nat) (hm : m ≤ cap) (hc : cap ≤ maxLen) :
    Kd.R (Kd.int .u8) 5 (w.alloc (.cells (madeCells #[.int .u8 0] cap) 5)) w.heap.size (fun _ => True) (.slice (some ⟨w.heap.size, 0, none⟩) m cap) (List.replicate m (0 : Int)) := by
  refine Kd.R_of_own ?_ (fun _ _ => trivial)
  refine ⟨by simp [encs], .inr ⟨w.heap.size, cap, madeCells #[.int .u8 0] cap, by rw [List.length_replicate], Nat.le_refl _, heap_alloc_new w _, by rw [List.length_replicate]; exact hm, hc, by rw [size_madeCells, Nat.mul_one], ?_⟩⟩
  rw [toList_madeCells_one, List.length_replicate, Nat.mul_one, List.take_replicate, Nat.min_eq_left hm]
  simp [encs]

theorem shr_byte (v : Int) (m : Nat) : v / 2 ^ (m : Int).toNat % 256 = v / 2 ^ m % 256 := by rw [Int.toNat_natCast]

/-- What the callers hand over. -/
def okAdd (l : List Int) (v n : Int) : Bool := decide (0 ≤ v) && decide (v < 18446744073709551616) && decide (0 ≤ n) && decide (n ≤ 8) && decide (l.length ≤ 140737488355320)
theorem okAdd_mk {l : List Int} {v n : Int} (h0 : 0 ≤ v) (h1 : v < 18446744073709551616) (h2 : 0 ≤ n) (h3 : n ≤ 8) (h4 : l.length ≤ 140737488355320) : okAdd l v n = true := by
  simp only [okAdd, Bool.and_eq_true, decide_eq_true_eq]
  exact ⟨⟨⟨⟨h0, h1⟩, h2⟩, h3⟩, h4⟩
end Go.Proofs.Ytfggcdpipolahaa.Oct
