/- The reader of frames: its box; New, none, Left, Copy, Feed. -/
import Derived.Test.YtajlmjmhkhdmdaaFrPlain
import Derived.Test.YtajlmjmhkhdmdaaGen
import Derived.Test.YtajlmjmhkhdmdaaLow
import Derived.Lib.Hide
import Derived.WalkMore
set_option linter.unusedVariables false
set_option linter.unusedSimpArgs false
namespace Go.Proofs.Ytajlmjmhkhdmdaa.PF
open Go.RowKit Go.Proofs.YtajlmjmhkhdmdaaW.PrintWords Go.Proofs.YtajlmjmhkhdmdaaW.PrintLast Go.Proofs.YtajlmjmhkhdmdaaW.PrintMore
attribute [local go_sem] max2_int min2_int max_two min_two
abbrev ku8 : Kd Int := Kd.int .u8
/-- The reader's box. -/
def RB (W : World) (b : Nat) (br : Bool) (A : Option Addr) (n c : Nat) : Prop := W.heap[b]? = some (.cells #[.bool true, .bool br, .slice A n c] 53 (0, 0))
section
variable {W W' : World} {b : Nat} {br : Bool} {A : Option Addr} {n c : Nat}
theorem RB.keep (h : RB W b br A n c) (hb : Below W.heap.size W W') : RB W' b br A n c := blk_below h hb
theorem RB.lt (h : RB W b br A n c) : b < W.heap.size := blk_lt h
theorem RB.c0 (h : RB W b br A n c) : W.cell? ⟨b, 0, none⟩ = some (.bool true) := (blk_cell h 0).trans rfl
theorem RB.c1 (h : RB W b br A n c) : W.cell? ⟨b, 1, none⟩ = some (.bool br) := (blk_cell h 1).trans rfl
theorem RB.c2 (h : RB W b br A n c) : W.cell? ⟨b, 2, none⟩ = some (.slice A n c) := (blk_cell h 2).trans rfl
end
/-- What Feed and its like leave alone: all but the reader's box and its own row. -/
def Else (w w' : World) (b : Nat) (ok : Nat → Prop) : Prop := w.heap.size ≤ w'.heap.size ∧ ∀ k, k < w.heap.size → k ≠ b → ¬ ok k → w'.heap[k]? = w.heap[k]?
theorem none_calls {b : Nat} {br : Bool} {A : Option Addr} {n c : Nat} {w : World} (h : RB w b br A n c) : Calls Try.prog 27 #[.pointer (some ⟨b, 0, none⟩)] w fun e w' => e = .returned (.bool false) ∧ w = w' := by
  have g0 := h.c0
  clear h
  go_enter Try.func27, Try.ntmps27
  go_wp2
  go_ret
  exact ⟨rfl, rfl⟩
theorem none_nil (w : World) : Calls Try.prog 27 #[.pointer none] w fun e w' => e = .returned (.bool true) ∧ w = w' := by
  go_enter Try.func27, Try.ntmps27
  go_wp2
  go_ret
  exact ⟨rfl, rfl⟩
theorem none_zero {b : Nat} {w : World} (g0 : w.cell? ⟨b, 0, none⟩ = some (.bool false)) : Calls Try.prog 27 #[.pointer (some ⟨b, 0, none⟩)] w fun e w' => e = .returned (.bool true) ∧ w = w' := by
  go_enter Try.func27, Try.ntmps27
  go_wp2
  go_ret
  exact ⟨rfl, rfl⟩
theorem new_calls (w : World) : Calls Try.prog 9 #[] w fun e w' => ∃ b, b = w.heap.size ∧ e = .returned (.pointer (some ⟨b, 0, none⟩)) ∧ RB w' b false none 0 0 ∧ Below w.heap.size w w' := by
  go_enter Try.func9, Try.ntmps9
  go_wp2
  go_ret
  exact ⟨_, rfl, rfl, blk_new _ _, below_alloc (Below.refl _ _) _⟩
theorem left_calls {b : Nat} {br : Bool} {A : Option Addr} {n c : Nat} {w : World} (h : RB w b br A n c) (hn : n ≤ 9223372036854775807) : Calls Try.prog 11 #[.pointer (some ⟨b, 0, none⟩)] w fun e w' => e = .returned (.int .i64 n) ∧ w = w' := by
  have H := Lib.hid (none_calls h)
  have g2 := h.c2
  clear h
  go_enter Try.func11, Try.ntmps11
  go_wp2_with fail
  refine H.out.mono ?_
  rintro e w' ⟨rfl, rfl⟩
  go_wp2
  go_ret
  exact ⟨rfl, rfl⟩
theorem left_none {v : Value} {w : World} (h : Calls Try.prog 27 #[v] w fun e w' => e = .returned (.bool true) ∧ w = w') : Calls Try.prog 11 #[v] w fun e w' => e = .returned (.int .i64 0) ∧ w = w' := by
  have H := Lib.hid h
  clear h
  go_enter Try.func11, Try.ntmps11
  go_wp2_with fail
  refine H.out.mono ?_
  rintro e w' ⟨rfl, rfl⟩
  go_wp2
  go_ret
  exact ⟨rfl, rfl⟩
theorem copy_none {v : Value} {w : World} (h : Calls Try.prog 27 #[v] w fun e w' => e = .returned (.bool true) ∧ w = w') : Calls Try.prog 21 #[v] w fun e w' => e = .returned (.pointer none) ∧ w = w' := by
  have H := Lib.hid h
  clear h
  go_enter Try.func21, Try.ntmps21
  go_wp2_with fail
  refine H.out.mono ?_
  rintro e w' ⟨rfl, rfl⟩
  go_wp2
  go_ret
  exact ⟨rfl, rfl⟩
set_option maxRecDepth 100000 in
set_option maxHeartbeats 1000000 in
theorem feed_none {v : Value} {B : Option Addr} {n c : Nat} {w : World} (h : Calls Try.prog 27 #[v] w fun e w' => e = .returned (.bool true) ∧ w = w') : Calls Try.prog 10 #[v, .slice B n c] w fun e w' => e = .returned (.tuple #[.slice none 0 0, .int .i64 1]) ∧ w = w' := by
  have H := Lib.hid h
  clear h
  go_enter Try.func10, Try.ntmps10
  go_wp2
  go_step3
  go_wp2_with fail
  refine H.out.mono ?_
  rintro e w' ⟨rfl, rfl⟩
  go_wp2
  try rw [Exit.noGoto_ret]
  go_ret2
  exact ⟨rfl, rfl⟩
set_option maxRecDepth 100000 in
set_option maxHeartbeats 1000000 in
theorem feed_broken {b : Nat} {A : Option Addr} {n c : Nat} {w : World} (h : RB w b true A n c) (B : Option Addr) (m d : Nat) : Calls Try.prog 10 #[.pointer (some ⟨b, 0, none⟩), .slice B m d] w fun e w' => e = .returned (.tuple #[.slice none 0 0, .int .i64 30]) ∧ w = w' := by
  have H := Lib.hid (none_calls h)
  have g1 := h.c1
  clear h
  go_enter Try.func10, Try.ntmps10
  go_wp2
  go_step3
  go_wp2_with fail
  refine H.out.mono ?_
  rintro e w' ⟨rfl, rfl⟩
  go_wp2
  try rw [Exit.noGoto_ret]
  go_ret2
  exact ⟨rfl, rfl⟩
theorem flat8 : Gen.Flat ku8 := fun _ _ _ _ _ h => h
theorem clone_calls (l : List Int) (A : Option Addr) (c : Nat) (w : World) (hr : Kd.C ku8 w A l.length l) (hc : l.length ≤ c) (hl : l.length ≤ 140737488355328) :
    Calls Try.prog 29 #[.slice A l.length c] w fun e w' => ∃ A' c', e = .returned (.slice A' l.length c') ∧ Kd.R ku8 5 w' w.heap.size (fun _ => True) (.slice A' l.length c') l ∧ Below w.heap.size w w' := by
  refine (Gen.clone5 ku8 rfl flat8 l A c w hr hc (by omega)).mono ?_
  rintro e w' ⟨v, rfl, h, hb⟩
  obtain ⟨A', c', rfl⟩ := Kd.R_slice h
  exact ⟨A', c', rfl, h, hb⟩
end Go.Proofs.Ytajlmjmhkhdmdaa.PF
