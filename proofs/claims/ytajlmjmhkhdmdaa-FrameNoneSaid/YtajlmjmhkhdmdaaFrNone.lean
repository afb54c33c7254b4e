/- FrameNone: a reader that New did not make. -/
import Derived.Test.YtajlmjmhkhdmdaaFrAwake
set_option linter.unusedVariables false
set_option linter.unusedSimpArgs false
namespace Go.Proofs.Ytajlmjmhkhdmdaa.PF
open Go.RowKit Go.Proofs.YtajlmjmhkhdmdaaW.PrintWords Go.Proofs.YtajlmjmhkhdmdaaW.PrintLast Go.Proofs.YtajlmjmhkhdmdaaW.PrintMore
attribute [local go_sem] max2_int min2_int max_two min_two
set_option maxRecDepth 100000 in
set_option maxHeartbeats 8000000 in
theorem none_law (A : Option Addr) (n c : Nat) (w : World) : Calls Try.prog 7 #[.slice A n c] w fun e w' => e = .returned (.bool true) ∧ Below w.heap.size w w' := by
  go_enter Try.func7, Try.ntmps7
  go_wp2
  generalize hWD : (w.alloc (.cells _ 53)).alloc (.cells _ 28) = WD
  obtain ⟨b, hb⟩ : ∃ b, b = w.heap.size := ⟨_, rfl⟩
  rw [← hb]
  have HZ : Hid (WD.heap[b]? = some (.cells #[.bool false, .bool false, .slice none 0 0] 53 (0, 0))) := Lib.hid (by rw [← hWD, hb]; exact blk_alloc (blk_new _ _) _)
  have HP : Hid (WD.heap[b + 1]? = some (.cells #[.pointer none, .pointer (some ⟨b, 0, none⟩)] 28 (0, 0))) := Lib.hid (by rw [← hWD, hb, ← World.size_alloc w (.cells #[.bool false, .bool false, .slice none 0 0] 53)]; exact blk_new _ _)
  have HB : Hid (Below w.heap.size w WD) := Lib.hid (by rw [← hWD]; exact below_alloc (below_alloc (Below.refl _ _) _) _)
  clear hWD hb
  go_loopw [13] (fun v13 wr => ∃ k : Nat, k ≤ 2 ∧ v13 = .int .i64 k ∧ Hid (WD = wr)) (fun v13 _ => 2 - (intOf v13).toNat)
  case atStart => exact ⟨0, by omega, rfl, Lib.hid rfl⟩
  case round =>
    obtain ⟨k, hk, rfl, HW⟩ := hrel
    obtain rfl := HW.out
    clear HW
    have g0 : WD.cell? ⟨b + 1, 0, none⟩ = some (.pointer none) := (blk_cell HP.out 0).trans rfl
    have g1 : WD.cell? ⟨b + 1, 1, none⟩ = some (.pointer (some ⟨b, 0, none⟩)) := (blk_cell HP.out 1).trans rfl
    have z0 : WD.cell? ⟨b, 0, none⟩ = some (.bool false) := (blk_cell HZ.out 0).trans rfl
    match k, hk with
    | 0, _ =>
      have N := Lib.hid (none_nil WD)
      go_wp2_with fail
      refine (feed_none N.out).mono ?_
      rintro e w' ⟨rfl, rfl⟩
      go_wp2_with fail
      refine (left_none N.out).mono ?_
      rintro e w' ⟨rfl, rfl⟩
      go_wp2_with fail
      refine (copy_none N.out).mono ?_
      rintro e w' ⟨rfl, rfl⟩
      go_wp2
      go_roundw
      case rel => exact ⟨1, by omega, rfl, Lib.hid trivial⟩
      case measure => simp [intOf]
    | 1, _ =>
      have N := Lib.hid (none_zero z0)
      go_wp2_with fail
      refine (feed_none N.out).mono ?_
      rintro e w' ⟨rfl, rfl⟩
      go_wp2_with fail
      refine (left_none N.out).mono ?_
      rintro e w' ⟨rfl, rfl⟩
      go_wp2_with fail
      refine (copy_none N.out).mono ?_
      rintro e w' ⟨rfl, rfl⟩
      go_wp2
      go_roundw
      case rel => exact ⟨2, by omega, rfl, Lib.hid trivial⟩
      case measure => simp [intOf]
    | 2, _ =>
      go_wp2_with fail
      refine (awake_calls _).mono ?_
      rintro e w1 ⟨rfl, hb⟩
      have HB1 := Lib.hid (below_then HB.out HB.out.size hb)
      clear hb
      go_wp2
      go_ret
      exact ⟨rfl, HB1.out⟩
end Go.Proofs.Ytajlmjmhkhdmdaa.PF
