/- A disk that New did not make. -/
import Derived.Test.YtfggcdpipolahaaFiAwake
set_option linter.unusedVariables false
set_option linter.unusedSimpArgs false
namespace Go.Proofs.Ytfggcdpipolahaa.PF
open Go.RowKit Go.Proofs.YtfggcdpipolahaaW.PrintWords Go.Proofs.YtfggcdpipolahaaW.PrintLast Go.Proofs.YtfggcdpipolahaaW.PrintMore
attribute [local go_sem] max2_int min2_int max_two min_two
theorem none_nil (w : World) : Calls Try.prog 32 #[.pointer none] w fun e w' => e = .returned (.bool true) ∧ w = w' := by
  go_enter Try.func32, Try.ntmps32
  go_wp2
  go_ret
  exact ⟨rfl, rfl⟩
theorem none_zero {b : Nat} {w : World} (g0 : w.cell? ⟨b, 0, none⟩ = some (.bool false)) : Calls Try.prog 32 #[.pointer (some ⟨b, 0, none⟩)] w fun e w' => e = .returned (.bool true) ∧ w = w' := by
  go_enter Try.func32, Try.ntmps32
  go_wp2
  go_ret
  exact ⟨rfl, rfl⟩
theorem wrong_none {v : Value} {w : World} (h : Calls Try.prog 32 #[v] w fun e w' => e = .returned (.bool true) ∧ w = w') (f : Int) : Calls Try.prog 29 #[v, .int .i64 f] w fun e w' => e = .returned (.int .i64 1) ∧ w = w' := by
  have H := Lib.hid (h)
  clear h
  go_enter Try.func29, Try.ntmps29
  go_wp2_with fail
  refine H.out.mono ?_
  rintro e w' ⟨rfl, rfl⟩
  go_wp2
  go_ret
  exact ⟨rfl, rfl⟩
theorem read_none {v : Value} {w : World} (h : Calls Try.prog 32 #[v] w fun e w' => e = .returned (.bool true) ∧ w = w') (f : Int) : Calls Try.prog 12 #[v, .int .i64 f] w fun e w' => e = .returned (.tuple #[.slice none 0 0, .int .i64 1]) ∧ w = w' := by
  have H := Lib.hid (wrong_none h f)
  clear h
  go_enter Try.func12, Try.ntmps12
  go_wp2_with fail
  refine H.out.mono ?_
  rintro e w' ⟨rfl, rfl⟩
  go_wp2
  go_ret2
  exact ⟨rfl, rfl⟩
theorem durable_none {v : Value} {w : World} (h : Calls Try.prog 32 #[v] w fun e w' => e = .returned (.bool true) ∧ w = w') (f : Int) : Calls Try.prog 14 #[v, .int .i64 f] w fun e w' => e = .returned (.tuple #[.slice none 0 0, .int .i64 1]) ∧ w = w' := by
  have H := Lib.hid (wrong_none h f)
  clear h
  go_enter Try.func14, Try.ntmps14
  go_wp2_with fail
  refine H.out.mono ?_
  rintro e w' ⟨rfl, rfl⟩
  go_wp2
  go_ret2
  exact ⟨rfl, rfl⟩
theorem append_none {v : Value} {w : World} (h : Calls Try.prog 32 #[v] w fun e w' => e = .returned (.bool true) ∧ w = w') (f : Int) (A : Option Addr) (n c : Nat) : Calls Try.prog 11 #[v, .int .i64 f, .slice A n c] w fun e w' => e = .returned (.int .i64 1) ∧ w = w' := by
  have H := Lib.hid (wrong_none h f)
  clear h
  go_enter Try.func11, Try.ntmps11
  go_wp2_with fail
  refine H.out.mono ?_
  rintro e w' ⟨rfl, rfl⟩
  go_wp2
  go_ret
  exact ⟨rfl, rfl⟩
theorem cut_none {v : Value} {w : World} (h : Calls Try.prog 32 #[v] w fun e w' => e = .returned (.bool true) ∧ w = w') (f n : Int) : Calls Try.prog 24 #[v, .int .i64 f, .int .i64 n] w fun e w' => e = .returned (.int .i64 1) ∧ w = w' := by
  have H := Lib.hid (wrong_none h f)
  clear h
  go_enter Try.func24, Try.ntmps24
  go_wp2_with fail
  refine H.out.mono ?_
  rintro e w' ⟨rfl, rfl⟩
  go_wp2
  go_ret
  exact ⟨rfl, rfl⟩
theorem sync_none {v : Value} {w : World} (h : Calls Try.prog 32 #[v] w fun e w' => e = .returned (.bool true) ∧ w = w')  : Calls Try.prog 13 #[v] w fun e w' => e = .returned (.int .i64 1) ∧ w = w' := by
  have H := Lib.hid (h)
  clear h
  go_enter Try.func13, Try.ntmps13
  go_wp2_with fail
  refine H.out.mono ?_
  rintro e w' ⟨rfl, rfl⟩
  go_wp2
  go_ret
  exact ⟨rfl, rfl⟩
theorem pending_none {v : Value} {w : World} (h : Calls Try.prog 32 #[v] w fun e w' => e = .returned (.bool true) ∧ w = w')  : Calls Try.prog 21 #[v] w fun e w' => e = .returned (.int .i64 0) ∧ w = w' := by
  have H := Lib.hid (h)
  clear h
  go_enter Try.func21, Try.ntmps21
  go_wp2_with fail
  refine H.out.mono ?_
  rintro e w' ⟨rfl, rfl⟩
  go_wp2
  go_ret
  exact ⟨rfl, rfl⟩
theorem arm_none {v : Value} {w : World} (h : Calls Try.prog 32 #[v] w fun e w' => e = .returned (.bool true) ∧ w = w') (n : Int) : Calls Try.prog 25 #[v, .int .i64 n] w fun e w' => e = .returned (.int .i64 1) ∧ w = w' := by
  have H := Lib.hid (h)
  clear h
  go_enter Try.func25, Try.ntmps25
  go_wp2_with fail
  refine H.out.mono ?_
  rintro e w' ⟨rfl, rfl⟩
  go_wp2
  go_ret
  exact ⟨rfl, rfl⟩
theorem fail_none {v : Value} {w : World} (h : Calls Try.prog 32 #[v] w fun e w' => e = .returned (.bool true) ∧ w = w') (n e : Int) : Calls Try.prog 26 #[v, .int .i64 n, .int .i64 e] w fun e w' => e = .returned (.int .i64 1) ∧ w = w' := by
  have H := Lib.hid (h)
  clear h
  go_enter Try.func26, Try.ntmps26
  go_wp2_with fail
  refine H.out.mono ?_
  rintro e w' ⟨rfl, rfl⟩
  go_wp2
  go_ret
  exact ⟨rfl, rfl⟩
theorem crash_none {v : Value} {w : World} (h : Calls Try.prog 32 #[v] w fun e w' => e = .returned (.bool true) ∧ w = w') (n t : Int) : Calls Try.prog 22 #[v, .int .i64 n, .int .i64 t] w fun e w' => e = .returned (.int .i64 1) ∧ w = w' := by
  have H := Lib.hid (h)
  clear h
  go_enter Try.func22, Try.ntmps22
  go_wp2_with fail
  refine H.out.mono ?_
  rintro e w' ⟨rfl, rfl⟩
  go_wp2
  go_ret
  exact ⟨rfl, rfl⟩
theorem copy_none {v : Value} {w : World} (h : Calls Try.prog 32 #[v] w fun e w' => e = .returned (.bool true) ∧ w = w')  : Calls Try.prog 23 #[v] w fun e w' => e = .returned (.pointer none) ∧ w = w' := by
  have H := Lib.hid (h)
  clear h
  go_enter Try.func23, Try.ntmps23
  go_wp2_with fail
  refine H.out.mono ?_
  rintro e w' ⟨rfl, rfl⟩
  go_wp2
  go_ret
  exact ⟨rfl, rfl⟩
set_option maxRecDepth 100000 in
set_option maxHeartbeats 8000000 in
theorem none_law (f n : Int) (A : Option Addr) (n0 c : Nat) (w : World) : Calls Try.prog 8 #[.int .i64 f, .int .i64 n, .slice A n0 c] w fun e w' => e = .returned (.bool true) ∧ Below w.heap.size w w' := by
  go_enter Try.func8, Try.ntmps8
  go_wp2
  generalize hWD : (w.alloc (.cells _ 69)).alloc (.cells _ 22) = WD
  obtain ⟨b, hb⟩ : ∃ b, b = w.heap.size := ⟨_, rfl⟩
  rw [← hb]
  have HZ : Hid (WD.heap[b]? = some (.cells #[.bool false, .slice none 0 0, .slice none 0 0, .slice none 0 0, .slice none 0 0, .slice none 0 0, .slice none 0 0, .slice none 0 0, .bool false, .int .i64 0, .int .i64 0, .int .i64 0] 69 (0, 0))) := Lib.hid (by rw [← hWD, hb]; exact blk_alloc (blk_new _ _) _)
  have HP : Hid (WD.heap[b + 1]? = some (.cells #[.pointer none, .pointer (some ⟨b, 0, none⟩)] 22 (0, 0))) := Lib.hid (by rw [← hWD, hb, ← World.size_alloc w (.cells #[.bool false, .slice none 0 0, .slice none 0 0, .slice none 0 0, .slice none 0 0, .slice none 0 0, .slice none 0 0, .slice none 0 0, .bool false, .int .i64 0, .int .i64 0, .int .i64 0] 69)]; exact blk_new _ _)
  have HB : Hid (Below w.heap.size w WD) := Lib.hid (by rw [← hWD]; exact below_alloc (below_alloc (Below.refl _ _) _) _)
  clear hWD hb
  go_loopw [19] (fun v19 wr => ∃ k : Nat, k ≤ 2 ∧ v19 = .int .i64 k ∧ Hid (WD = wr)) (fun v19 _ => 2 - (intOf v19).toNat)
  case atStart => exact ⟨0, by omega, rfl, Lib.hid rfl⟩
  case round =>
    obtain ⟨k, hk, rfl, HW⟩ := hrel
    obtain rfl := HW.out
    clear HW
    have g0 : WD.cell? ⟨b + 1, 0, none⟩ = some (.pointer none) := (blk_cell HP.out 0).trans rfl
    have g1 : WD.cell? ⟨b + 1, 1, none⟩ = some (.pointer (some ⟨b, 0, none⟩)) := (blk_cell HP.out 1).trans rfl
    have z0 : WD.cell? ⟨b, 0, none⟩ = some (.bool false) := (blk_cell HZ.out 0).trans rfl
    match k, hk with
    | 0, _ =>
      have N := Lib.hid (none_nil WD)
      go_wp2_with fail
      refine (read_none N.out f).mono ?_
      rintro e w' ⟨rfl, rfl⟩
      go_wp2_with fail
      refine (durable_none N.out f).mono ?_
      rintro e w' ⟨rfl, rfl⟩
      go_wp2_with fail
      refine (append_none N.out f A n0 c).mono ?_
      rintro e w' ⟨rfl, rfl⟩
      go_wp2_with fail
      refine (cut_none N.out f n).mono ?_
      rintro e w' ⟨rfl, rfl⟩
      go_wp2_with fail
      refine (sync_none N.out).mono ?_
      rintro e w' ⟨rfl, rfl⟩
      go_wp2_with fail
      refine (arm_none N.out n).mono ?_
      rintro e w' ⟨rfl, rfl⟩
      go_wp2_with fail
      refine (fail_none N.out n 4).mono ?_
      rintro e w' ⟨rfl, rfl⟩
      go_wp2_with fail
      refine (crash_none N.out n n).mono ?_
      rintro e w' ⟨rfl, rfl⟩
      go_wp2_with fail
      refine (pending_none N.out).mono ?_
      rintro e w' ⟨rfl, rfl⟩
      go_wp2_with fail
      refine (copy_none N.out).mono ?_
      rintro e w' ⟨rfl, rfl⟩
      go_wp2
      go_roundw
      case rel => exact ⟨1, by omega, rfl, Lib.hid trivial⟩
      case measure => simp [intOf]
    | 1, _ =>
      have N := Lib.hid (none_zero z0)
      go_wp2_with fail
      refine (read_none N.out f).mono ?_
      rintro e w' ⟨rfl, rfl⟩
      go_wp2_with fail
      refine (durable_none N.out f).mono ?_
      rintro e w' ⟨rfl, rfl⟩
      go_wp2_with fail
      refine (append_none N.out f A n0 c).mono ?_
      rintro e w' ⟨rfl, rfl⟩
      go_wp2_with fail
      refine (cut_none N.out f n).mono ?_
      rintro e w' ⟨rfl, rfl⟩
      go_wp2_with fail
      refine (sync_none N.out).mono ?_
      rintro e w' ⟨rfl, rfl⟩
      go_wp2_with fail
      refine (arm_none N.out n).mono ?_
      rintro e w' ⟨rfl, rfl⟩
      go_wp2_with fail
      refine (fail_none N.out n 4).mono ?_
      rintro e w' ⟨rfl, rfl⟩
      go_wp2_with fail
      refine (crash_none N.out n n).mono ?_
      rintro e w' ⟨rfl, rfl⟩
      go_wp2_with fail
      refine (pending_none N.out).mono ?_
      rintro e w' ⟨rfl, rfl⟩
      go_wp2_with fail
      refine (copy_none N.out).mono ?_
      rintro e w' ⟨rfl, rfl⟩
      go_wp2
      go_roundw
      case rel => exact ⟨2, by omega, rfl, Lib.hid trivial⟩
      case measure => simp [intOf]
    | 2, _ =>
      go_wp2_with fail
      refine (awake_calls _).mono ?_
      rintro e w1 ⟨rfl, hb⟩
      have HB1 := Lib.hid (below_then HB.out HB.out.size hb)
      clear hb
      go_wp2
      go_ret
      exact ⟨rfl, HB1.out⟩
end Go.Proofs.Ytfggcdpipolahaa.PF
